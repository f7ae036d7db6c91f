-- out of a driver of this session's prover over the kit's print: Lean checks it
import Derived.Test.YtpgbfjndgbfhnaaPAllx0
import Derived.Test.YtpgbfjndgbfhnaaPAllx1
import Derived.Test.YtpgbfjndgbfhnaaPAllx3
import Derived.Test.YtpgbfjndgbfhnaaPAllx4
import Derived.Test.YtpgbfjndgbfhnaaPAllx5
import Derived.Test.YtpgbfjndgbfhnaaPAllx9
import Derived.Test.YtpgbfjndgbfhnaaPAllx10
import Derived.Test.YtpgbfjndgbfhnaaPAllx13
namespace Go.Proofs.Ytpgbfjndgbfhnaa.PAll
open Go.Proofs.YtpgbfjndgbfhnaaG Go.Shelf Go.Lib
open Go.RowKit Go.Proofs.YtpgbfjndgbfhnaaW.PrintWords Go.Proofs.YtpgbfjndgbfhnaaW.PrintLast Go.Proofs.YtpgbfjndgbfhnaaW.PrintMore
attribute [local go_sem] max2_int min2_int max_two min_two max_three min_three max_four min_four   -- for this text's walks alone
set_option linter.unusedVariables false
set_option linter.unusedSimpArgs false
attribute [local go_sem high] eqA40
mutual
def mapmakerlaw26_GeneralizeKeeps.j0 : Nat → List (S31) → List (S31) → List (S40) → Bool → Option (Bool)
 | 0, _, _, _, _ => none
 | k + 1, x0, x5, x6, x33 => if x33 = true then (some false) else (mapmakerlaw26_GeneralizeKeeps.l0 k x0 x5 x6 0)
def mapmakerlaw26_GeneralizeKeeps.l0 : Nat → List (S31) → List (S31) → List (S40) → Int → Option (Bool)
 | 0, _, _, _, _ => none
 | k + 1, x0, x5, x6, x7 => if x7 < (x0.length : Int) then (mapmakerlaw26_GeneralizeKeeps.l1 k x0 x5 x6 x7 0 0) else ((mapmakerlaw26_lives.f k).bind fun t339 => (some t339))
def mapmakerlaw26_GeneralizeKeeps.l1 : Nat → List (S31) → List (S31) → List (S40) → Int → Int → Int → Option (Bool)
 | 0, _, _, _, _, _, _ => none
 | k + 1, x0, x5, x6, x7, x8, x9 => if 0 ≤ x7 then (if x7 < (x0.length : Int) then (if x9 < (((rd_T31 x0 x7).f1).length : Int) then ((mapmakerref26_Good.f k ((rd_T31 x0 x7).f0) ((rd_T31 x0 x7).f1) ((rd_T31 x0 x7).f2) ((rd_T31 x0 x7).f3)).bind fun t342 => (mapmakerlaw26_GeneralizeKeeps.j3 k x0 x5 x6 x7 x8 x9 t342)) else (mapmakerlaw26_GeneralizeKeeps.j3 k x0 x5 x6 x7 x8 x9 false)) else (none)) else (none)
def mapmakerlaw26_GeneralizeKeeps.j3 : Nat → List (S31) → List (S31) → List (S40) → Int → Int → Int → Bool → Option (Bool)
 | 0, _, _, _, _, _, _, _ => none
 | k + 1, x0, x5, x6, x7, x8, x9, x54 => if x54 = true then (if 0 ≤ x7 then (if x7 < (x0.length : Int) then (if 0 ≤ x9 then (if x9 < (((rd_T31 x0 x7).f1).length : Int) then (if x7 < (x5.length : Int) then (if x8 < (((rd_T31 x5 x7).f1).length : Int) then (if x8 < (((rd_T31 x5 x7).f2).length : Int) then (if 0 ≤ x8 then (if (((rd_T40 ((rd_T31 x5 x7).f1) x8).f0) == ((rd_T40 ((rd_T31 x0 x7).f1) x9).f0) && (((rd_T40 ((rd_T31 x5 x7).f1) x8).f1) == ((rd_T40 ((rd_T31 x0 x7).f1) x9).f1))) = true then (if x9 < (((rd_T31 x0 x7).f2).length : Int) then (mapmakerlaw26_GeneralizeKeeps.j4 k x0 x5 x6 x7 x8 x9 ((rd ((rd_T31 x5 x7).f2) x8) == (rd ((rd_T31 x0 x7).f2) x9)) ((rd_T40 ((rd_T31 x0 x7).f1) x9).f0) ((rd_T40 ((rd_T31 x0 x7).f1) x9).f1)) else (none)) else (mapmakerlaw26_GeneralizeKeeps.j4 k x0 x5 x6 x7 x8 x9 false ((rd_T40 ((rd_T31 x0 x7).f1) x9).f0) ((rd_T40 ((rd_T31 x0 x7).f1) x9).f1))) else (none)) else (none)) else (mapmakerlaw26_GeneralizeKeeps.j4 k x0 x5 x6 x7 x8 x9 false ((rd_T40 ((rd_T31 x0 x7).f1) x9).f0) ((rd_T40 ((rd_T31 x0 x7).f1) x9).f1))) else (none)) else (none)) else (none)) else (none)) else (none)) else (if 0 ≤ x7 then (if x7 < (x0.length : Int) then ((mapmakerref26_Good.f k ((rd_T31 x0 x7).f0) ((rd_T31 x0 x7).f1) ((rd_T31 x0 x7).f2) ((rd_T31 x0 x7).f3)).bind fun t356 => (if t356 = true then (if x7 < (x5.length : Int) then (if x8 = (((rd_T31 x5 x7).f1).length : Int) then ((mapmakerref26_Good.f k ((rd_T31 x0 x7).f0) ((rd_T31 x0 x7).f1) ((rd_T31 x0 x7).f2) ((rd_T31 x0 x7).f3)).bind fun t359 => (if t359 = true then (if ((rd_T31 x5 x7).f0) = ((rd_T31 x0 x7).f0) then (mapmakerlaw26_GeneralizeKeeps.l0 k x0 x5 x6 (wrap64 (x7 + 1))) else (some false)) else (none))) else (some false)) else (none)) else ((mapmakerref26_Good.f k ((rd_T31 x0 x7).f0) ((rd_T31 x0 x7).f1) ((rd_T31 x0 x7).f2) ((rd_T31 x0 x7).f3)).bind fun t368 => (if t368 = true then (none) else (if x7 < (x5.length : Int) then ((mapmakerlaw26_same.f k ((rd_T31 x5 x7).f0) ((rd_T31 x5 x7).f1) ((rd_T31 x5 x7).f2) ((rd_T31 x5 x7).f3) ((rd_T31 x0 x7).f0) ((rd_T31 x0 x7).f1) ((rd_T31 x0 x7).f2) ((rd_T31 x0 x7).f3)).bind fun t373 => (if t373 = true then (if ((rd_T31 x5 x7).f0) = ((rd_T31 x0 x7).f0) then (mapmakerlaw26_GeneralizeKeeps.l0 k x0 x5 x6 (wrap64 (x7 + 1))) else (some false)) else (some false))) else (none)))))) else (none)) else (none))
def mapmakerlaw26_GeneralizeKeeps.j4 : Nat → List (S31) → List (S31) → List (S40) → Int → Int → Int → Bool → Int → Int → Option (Bool)
 | 0, _, _, _, _, _, _, _, _, _ => none
 | k + 1, x0, x5, x6, x7, x8, x9, x11, x346000, x346001 => if x11 = true then (mapmakerlaw26_GeneralizeKeeps.l1 k x0 x5 x6 x7 (wrap64 (x8 + 1)) (wrap64 (x9 + 1))) else ((mapmakerref26_Has.f k x6 x346000 x346001).bind fun t354 => (if t354 = true then (some false) else (mapmakerlaw26_GeneralizeKeeps.l1 k x0 x5 x6 x7 x8 (wrap64 (x9 + 1)))))
end
def mapmakerlaw26_GeneralizeKeeps.f (k : Nat) (l0 : List (S31)) (a1 : Int) : Option (Bool) := (mapmakerlaw26_few.f k l0).bind fun t327 => (if t327 = true then ((generalize_Lines.f k l0 a1).bind fun t329 => ((generalize_Fixed.f l0).bind fun t332 => (if (t329.length : Int) = (l0.length : Int) then ((generalize_Lines.f k t329 a1).bind fun t335 => ((mapmakerlaw26_all.f k t335 t329).bind fun t338 => (mapmakerlaw26_GeneralizeKeeps.j0 k l0 t329 t332 (!t338)))) else (mapmakerlaw26_GeneralizeKeeps.j0 k l0 t329 t332 true)))) else ((mapmakerlaw26_lives.f k).bind fun t328 => (some t328)))
theorem mapmakerlaw26_GeneralizeKeeps.mono_l : ∀ k, (∀ y0 y1 y2 y3, LeO (mapmakerlaw26_GeneralizeKeeps.j0 k y0 y1 y2 y3) (mapmakerlaw26_GeneralizeKeeps.j0 (k + 1) y0 y1 y2 y3)) ∧ (∀ y0 y1 y2 y3, LeO (mapmakerlaw26_GeneralizeKeeps.l0 k y0 y1 y2 y3) (mapmakerlaw26_GeneralizeKeeps.l0 (k + 1) y0 y1 y2 y3)) ∧ (∀ y0 y1 y2 y3 y4 y5, LeO (mapmakerlaw26_GeneralizeKeeps.l1 k y0 y1 y2 y3 y4 y5) (mapmakerlaw26_GeneralizeKeeps.l1 (k + 1) y0 y1 y2 y3 y4 y5)) ∧ (∀ y0 y1 y2 y3 y4 y5 y6, LeO (mapmakerlaw26_GeneralizeKeeps.j3 k y0 y1 y2 y3 y4 y5 y6) (mapmakerlaw26_GeneralizeKeeps.j3 (k + 1) y0 y1 y2 y3 y4 y5 y6)) ∧ (∀ y0 y1 y2 y3 y4 y5 y6 y7 y8, LeO (mapmakerlaw26_GeneralizeKeeps.j4 k y0 y1 y2 y3 y4 y5 y6 y7 y8) (mapmakerlaw26_GeneralizeKeeps.j4 (k + 1) y0 y1 y2 y3 y4 y5 y6 y7 y8))
 | 0 => ⟨fun _ _ _ _ r h => by simp [mapmakerlaw26_GeneralizeKeeps.j0] at h, fun _ _ _ _ r h => by simp [mapmakerlaw26_GeneralizeKeeps.l0] at h, fun _ _ _ _ _ _ r h => by simp [mapmakerlaw26_GeneralizeKeeps.l1] at h, fun _ _ _ _ _ _ _ r h => by simp [mapmakerlaw26_GeneralizeKeeps.j3] at h, fun _ _ _ _ _ _ _ _ _ r h => by simp [mapmakerlaw26_GeneralizeKeeps.j4] at h⟩
 | k + 1 => by
  obtain ⟨ih0, ih1, ih2, ih3, ih4⟩ := mapmakerlaw26_GeneralizeKeeps.mono_l k
  refine ⟨?_, ?_, ?_, ?_, ?_⟩
  ·intro y0 y1 y2 y3
   unfold mapmakerlaw26_GeneralizeKeeps.j0
   repeat' first
   | (with_reducible exact ih0 _ _ _ _)
   | (with_reducible exact ih1 _ _ _ _)
   | (with_reducible exact ih2 _ _ _ _ _ _)
   | (with_reducible exact ih3 _ _ _ _ _ _ _)
   | (with_reducible exact ih4 _ _ _ _ _ _ _ _ _)
   | (with_reducible exact generalize_Lines.mono _ _ _)
   | (with_reducible exact mapmakerlaw26_all.mono _ _ _)
   | (with_reducible exact mapmakerlaw26_few.mono _ _)
   | (with_reducible exact mapmakerlaw26_lives.mono _)
   | (with_reducible exact mapmakerlaw26_same.mono _ _ _ _ _ _ _ _ _)
   | (with_reducible exact mapmakerref26_Good.mono _ _ _ _ _)
   | (with_reducible exact mapmakerref26_Has.mono _ _ _ _)
   | (with_reducible exact LeO.refl _)
   | (with_reducible exact LeO.none _)
   | (with_reducible refine LeO.ite ?_ ?_)
   | (with_reducible refine LeO.bind ?_ (fun _ => ?_))
   | exact ih0 _ _ _ _
   | exact ih1 _ _ _ _
   | exact ih2 _ _ _ _ _ _
   | exact ih3 _ _ _ _ _ _ _
   | exact ih4 _ _ _ _ _ _ _ _ _
   | exact generalize_Lines.mono _ _ _
   | exact mapmakerlaw26_all.mono _ _ _
   | exact mapmakerlaw26_few.mono _ _
   | exact mapmakerlaw26_lives.mono _
   | exact mapmakerlaw26_same.mono _ _ _ _ _ _ _ _ _
   | exact mapmakerref26_Good.mono _ _ _ _ _
   | exact mapmakerref26_Has.mono _ _ _ _
   | exact LeO.none _
   | refine LeO.ite ?_ ?_
   | refine LeO.bind ?_ (fun _ => ?_)
  ·intro y0 y1 y2 y3
   unfold mapmakerlaw26_GeneralizeKeeps.l0
   repeat' first
   | (with_reducible exact ih0 _ _ _ _)
   | (with_reducible exact ih1 _ _ _ _)
   | (with_reducible exact ih2 _ _ _ _ _ _)
   | (with_reducible exact ih3 _ _ _ _ _ _ _)
   | (with_reducible exact ih4 _ _ _ _ _ _ _ _ _)
   | (with_reducible exact generalize_Lines.mono _ _ _)
   | (with_reducible exact mapmakerlaw26_all.mono _ _ _)
   | (with_reducible exact mapmakerlaw26_few.mono _ _)
   | (with_reducible exact mapmakerlaw26_lives.mono _)
   | (with_reducible exact mapmakerlaw26_same.mono _ _ _ _ _ _ _ _ _)
   | (with_reducible exact mapmakerref26_Good.mono _ _ _ _ _)
   | (with_reducible exact mapmakerref26_Has.mono _ _ _ _)
   | (with_reducible exact LeO.refl _)
   | (with_reducible exact LeO.none _)
   | (with_reducible refine LeO.ite ?_ ?_)
   | (with_reducible refine LeO.bind ?_ (fun _ => ?_))
   | exact ih0 _ _ _ _
   | exact ih1 _ _ _ _
   | exact ih2 _ _ _ _ _ _
   | exact ih3 _ _ _ _ _ _ _
   | exact ih4 _ _ _ _ _ _ _ _ _
   | exact generalize_Lines.mono _ _ _
   | exact mapmakerlaw26_all.mono _ _ _
   | exact mapmakerlaw26_few.mono _ _
   | exact mapmakerlaw26_lives.mono _
   | exact mapmakerlaw26_same.mono _ _ _ _ _ _ _ _ _
   | exact mapmakerref26_Good.mono _ _ _ _ _
   | exact mapmakerref26_Has.mono _ _ _ _
   | exact LeO.none _
   | refine LeO.ite ?_ ?_
   | refine LeO.bind ?_ (fun _ => ?_)
  ·intro y0 y1 y2 y3 y4 y5
   unfold mapmakerlaw26_GeneralizeKeeps.l1
   repeat' first
   | (with_reducible exact ih0 _ _ _ _)
   | (with_reducible exact ih1 _ _ _ _)
   | (with_reducible exact ih2 _ _ _ _ _ _)
   | (with_reducible exact ih3 _ _ _ _ _ _ _)
   | (with_reducible exact ih4 _ _ _ _ _ _ _ _ _)
   | (with_reducible exact generalize_Lines.mono _ _ _)
   | (with_reducible exact mapmakerlaw26_all.mono _ _ _)
   | (with_reducible exact mapmakerlaw26_few.mono _ _)
   | (with_reducible exact mapmakerlaw26_lives.mono _)
   | (with_reducible exact mapmakerlaw26_same.mono _ _ _ _ _ _ _ _ _)
   | (with_reducible exact mapmakerref26_Good.mono _ _ _ _ _)
   | (with_reducible exact mapmakerref26_Has.mono _ _ _ _)
   | (with_reducible exact LeO.refl _)
   | (with_reducible exact LeO.none _)
   | (with_reducible refine LeO.ite ?_ ?_)
   | (with_reducible refine LeO.bind ?_ (fun _ => ?_))
   | exact ih0 _ _ _ _
   | exact ih1 _ _ _ _
   | exact ih2 _ _ _ _ _ _
   | exact ih3 _ _ _ _ _ _ _
   | exact ih4 _ _ _ _ _ _ _ _ _
   | exact generalize_Lines.mono _ _ _
   | exact mapmakerlaw26_all.mono _ _ _
   | exact mapmakerlaw26_few.mono _ _
   | exact mapmakerlaw26_lives.mono _
   | exact mapmakerlaw26_same.mono _ _ _ _ _ _ _ _ _
   | exact mapmakerref26_Good.mono _ _ _ _ _
   | exact mapmakerref26_Has.mono _ _ _ _
   | exact LeO.none _
   | refine LeO.ite ?_ ?_
   | refine LeO.bind ?_ (fun _ => ?_)
  ·intro y0 y1 y2 y3 y4 y5 y6
   unfold mapmakerlaw26_GeneralizeKeeps.j3
   repeat' first
   | (with_reducible exact ih0 _ _ _ _)
   | (with_reducible exact ih1 _ _ _ _)
   | (with_reducible exact ih2 _ _ _ _ _ _)
   | (with_reducible exact ih3 _ _ _ _ _ _ _)
   | (with_reducible exact ih4 _ _ _ _ _ _ _ _ _)
   | (with_reducible exact generalize_Lines.mono _ _ _)
   | (with_reducible exact mapmakerlaw26_all.mono _ _ _)
   | (with_reducible exact mapmakerlaw26_few.mono _ _)
   | (with_reducible exact mapmakerlaw26_lives.mono _)
   | (with_reducible exact mapmakerlaw26_same.mono _ _ _ _ _ _ _ _ _)
   | (with_reducible exact mapmakerref26_Good.mono _ _ _ _ _)
   | (with_reducible exact mapmakerref26_Has.mono _ _ _ _)
   | (with_reducible exact LeO.refl _)
   | (with_reducible exact LeO.none _)
   | (with_reducible refine LeO.ite ?_ ?_)
   | (with_reducible refine LeO.bind ?_ (fun _ => ?_))
   | exact ih0 _ _ _ _
   | exact ih1 _ _ _ _
   | exact ih2 _ _ _ _ _ _
   | exact ih3 _ _ _ _ _ _ _
   | exact ih4 _ _ _ _ _ _ _ _ _
   | exact generalize_Lines.mono _ _ _
   | exact mapmakerlaw26_all.mono _ _ _
   | exact mapmakerlaw26_few.mono _ _
   | exact mapmakerlaw26_lives.mono _
   | exact mapmakerlaw26_same.mono _ _ _ _ _ _ _ _ _
   | exact mapmakerref26_Good.mono _ _ _ _ _
   | exact mapmakerref26_Has.mono _ _ _ _
   | exact LeO.none _
   | refine LeO.ite ?_ ?_
   | refine LeO.bind ?_ (fun _ => ?_)
  ·intro y0 y1 y2 y3 y4 y5 y6 y7 y8
   unfold mapmakerlaw26_GeneralizeKeeps.j4
   repeat' first
   | (with_reducible exact ih0 _ _ _ _)
   | (with_reducible exact ih1 _ _ _ _)
   | (with_reducible exact ih2 _ _ _ _ _ _)
   | (with_reducible exact ih3 _ _ _ _ _ _ _)
   | (with_reducible exact ih4 _ _ _ _ _ _ _ _ _)
   | (with_reducible exact generalize_Lines.mono _ _ _)
   | (with_reducible exact mapmakerlaw26_all.mono _ _ _)
   | (with_reducible exact mapmakerlaw26_few.mono _ _)
   | (with_reducible exact mapmakerlaw26_lives.mono _)
   | (with_reducible exact mapmakerlaw26_same.mono _ _ _ _ _ _ _ _ _)
   | (with_reducible exact mapmakerref26_Good.mono _ _ _ _ _)
   | (with_reducible exact mapmakerref26_Has.mono _ _ _ _)
   | (with_reducible exact LeO.refl _)
   | (with_reducible exact LeO.none _)
   | (with_reducible refine LeO.ite ?_ ?_)
   | (with_reducible refine LeO.bind ?_ (fun _ => ?_))
   | exact ih0 _ _ _ _
   | exact ih1 _ _ _ _
   | exact ih2 _ _ _ _ _ _
   | exact ih3 _ _ _ _ _ _ _
   | exact ih4 _ _ _ _ _ _ _ _ _
   | exact generalize_Lines.mono _ _ _
   | exact mapmakerlaw26_all.mono _ _ _
   | exact mapmakerlaw26_few.mono _ _
   | exact mapmakerlaw26_lives.mono _
   | exact mapmakerlaw26_same.mono _ _ _ _ _ _ _ _ _
   | exact mapmakerref26_Good.mono _ _ _ _ _
   | exact mapmakerref26_Has.mono _ _ _ _
   | exact LeO.none _
   | refine LeO.ite ?_ ?_
   | refine LeO.bind ?_ (fun _ => ?_)
theorem mapmakerlaw26_GeneralizeKeeps.mono : ∀ a0 a1 k, LeO (mapmakerlaw26_GeneralizeKeeps.f k a0 a1) (mapmakerlaw26_GeneralizeKeeps.f (k + 1) a0 a1) := by
 intro a0 a1 k
 obtain ⟨ih0, ih1, ih2, ih3, ih4⟩ := mapmakerlaw26_GeneralizeKeeps.mono_l k
 unfold mapmakerlaw26_GeneralizeKeeps.f
 repeat' first
   | (with_reducible exact ih0 _ _ _ _)
   | (with_reducible exact ih1 _ _ _ _)
   | (with_reducible exact ih2 _ _ _ _ _ _)
   | (with_reducible exact ih3 _ _ _ _ _ _ _)
   | (with_reducible exact ih4 _ _ _ _ _ _ _ _ _)
   | (with_reducible exact generalize_Lines.mono _ _ _)
   | (with_reducible exact mapmakerlaw26_all.mono _ _ _)
   | (with_reducible exact mapmakerlaw26_few.mono _ _)
   | (with_reducible exact mapmakerlaw26_lives.mono _)
   | (with_reducible exact mapmakerlaw26_same.mono _ _ _ _ _ _ _ _ _)
   | (with_reducible exact mapmakerref26_Good.mono _ _ _ _ _)
   | (with_reducible exact mapmakerref26_Has.mono _ _ _ _)
   | (with_reducible exact LeO.refl _)
   | (with_reducible exact LeO.none _)
   | (with_reducible refine LeO.ite ?_ ?_)
   | (with_reducible refine LeO.bind ?_ (fun _ => ?_))
   | exact ih0 _ _ _ _
   | exact ih1 _ _ _ _
   | exact ih2 _ _ _ _ _ _
   | exact ih3 _ _ _ _ _ _ _
   | exact ih4 _ _ _ _ _ _ _ _ _
   | exact generalize_Lines.mono _ _ _
   | exact mapmakerlaw26_all.mono _ _ _
   | exact mapmakerlaw26_few.mono _ _
   | exact mapmakerlaw26_lives.mono _
   | exact mapmakerlaw26_same.mono _ _ _ _ _ _ _ _ _
   | exact mapmakerref26_Good.mono _ _ _ _ _
   | exact mapmakerref26_Has.mono _ _ _ _
   | exact LeO.none _
   | refine LeO.ite ?_ ?_
   | refine LeO.bind ?_ (fun _ => ?_)
def mapmakerlaw26_GeneralizeKeeps.T14 : Bool × List (List Nat × List Nat) := (true, [([], []), ([], []), ([], []), ([1, 2], [1, 2]), ([3], [3]), ([4], [4]), ([5], [5]), ([0, 6], [0, 6]), ([7], [7]), ([8], [8]), ([8], [8]), ([8], [8]), ([10, 11, 8], [8, 10, 11]), ([12, 8], [8, 12]), ([13, 8], [8, 13]), ([14, 8], [8, 14]), ([9, 15, 8], [8, 9, 15]), ([8, 16], [8, 16]), ([17, 8], [17]), ([18], [18]), ([18], [18]), ([19, 20, 18], [18, 19, 20]), ([21, 18], [18, 21]), ([22, 18], [18, 22]), ([18], [18]), ([23, 24, 18], [18, 23, 24]), ([25, 18], [18, 25]), ([18], [18]), ([26, 27, 18], [18, 26, 27]), ([18, 28], [18, 28]), ([29, 18], [29]), ([30], [30]), ([30], [30]), ([31, 32, 30], [30, 31, 32]), ([33, 30], [30, 33]), ([34, 30], [30, 34]), ([30], [30]), ([35, 36, 30], [30, 35, 36]), ([37, 30], [30, 37]), ([30], [30]), ([30], [30]), ([39, 40, 30], [30, 39, 40]), ([41, 30], [30, 41]), ([42, 30], [30, 42]), ([30], [30]), ([43, 44, 30], [30, 43, 44]), ([45, 30], [30, 45]), ([38, 46, 30], [30, 38, 46]), ([30, 47], [30, 47]), ([48, 30, 0, 1, 2, 3, 4, 5, 6, 7, 8, 9, 10, 11, 12, 13, 14, 15, 16, 17, 18, 19, 20, 21, 22, 23, 24, 25, 26, 27, 28, 29, 30, 31, 32, 33, 34, 35, 36, 37, 38, 39, 40, 41, 42, 43, 44, 45, 46, 47, 48], [48])])
def mapmakerlaw26_GeneralizeKeeps.B14 : List Nat := [0, 0, 0, 6, 14, 30, 62, 127, 255, 511, 511, 511, 3583, 7679, 15871, 32255, 65535, 131071, 262143, 524287, 524287, 2097151, 4194303, 8388607, 524287, 33554431, 67108863, 524287, 268435455, 536870911, 1073741823, 2147483647, 2147483647, 8589934591, 17179869183, 34359738367, 2147483647, 137438953471, 274877906943, 2147483647, 2147483647, 1651414925311, 3850438180863, 8248484691967, 2147483647, 34636763758591, 69821135847423, 140737488355327, 281474976710655, 562949953421311]
theorem mapmakerlaw26_GeneralizeKeeps.tab14 : rtab .any (opsOf Try.f6 14) = mapmakerlaw26_GeneralizeKeeps.T14 := by kernel_rfl
theorem mapmakerlaw26_GeneralizeKeeps.bits14 : waitsOk mapmakerlaw26_GeneralizeKeeps.T14.2 mapmakerlaw26_GeneralizeKeeps.B14 = true := by kernel_rfl
def mapmakerlaw26_GeneralizeKeeps.T19 : Bool × List (List Nat × List Nat) := (true, [([], []), ([], []), ([0, 1], [0, 1]), ([2], [2]), ([3], [3]), ([4, 4], [4]), ([5], [5]), ([5], [5]), ([5], [5]), ([7, 8, 5], [5, 7, 8]), ([9, 5], [5, 9]), ([10, 5], [5, 10]), ([11, 5], [5, 11]), ([6, 12, 5], [5, 6, 12]), ([5, 13], [5, 13]), ([14, 5], [14]), ([15], [15]), ([15], [15]), ([16, 17, 15], [15, 16, 17]), ([18, 15], [15, 18]), ([19, 15, 15], [15, 19]), ([20, 15], [15, 20]), ([21, 20, 15], [15, 21]), ([22], [22]), ([22], [22]), ([23, 24, 22], [22, 23, 24]), ([25, 22], [22, 25]), ([22], [22]), ([22], [22]), ([27, 28, 22], [22, 27, 28]), ([29, 22], [22, 29]), ([26, 30, 22, 22], [22, 26, 30]), ([31, 22], [22, 31]), ([22, 32, 15], [15, 22, 32]), ([15, 33], [15, 33]), ([34, 31], [34]), ([35], [35]), ([35], [35]), ([36, 37, 35], [35, 36, 37]), ([38, 35], [35, 38]), ([39, 35], [35, 39]), ([35], [35]), ([35], [35]), ([41, 42, 35], [35, 41, 42]), ([43, 35], [35, 43]), ([44, 35], [35, 44]), ([40, 45, 35], [35, 40, 45]), ([35, 46], [35, 46])])
def mapmakerlaw26_GeneralizeKeeps.B19 : List Nat := [0, 0, 3, 7, 15, 31, 63, 63, 63, 447, 959, 1983, 4031, 8191, 16383, 32767, 65535, 65535, 262143, 524287, 1048575, 2097151, 4194303, 8388607, 8388607, 33554431, 67108863, 8388607, 8388607, 411041791, 947912703, 2147483647, 4294967295, 8589934591, 17179869183, 34359738367, 68719476735, 68719476735, 274877906943, 549755813887, 1099511627775, 68719476735, 68719476735, 6665789243391, 15461882265599, 33054068310015, 70368744177663, 140737488355327]
theorem mapmakerlaw26_GeneralizeKeeps.tab19 : rtab .any (opsOf Try.f6 19) = mapmakerlaw26_GeneralizeKeeps.T19 := by kernel_rfl
theorem mapmakerlaw26_GeneralizeKeeps.bits19 : waitsOk mapmakerlaw26_GeneralizeKeeps.T19.2 mapmakerlaw26_GeneralizeKeeps.B19 = true := by kernel_rfl
set_option maxHeartbeats 8000000 in
set_option maxRecDepth 100000 in
theorem mapmakerlaw26_GeneralizeKeeps.callsT (k : Nat) (A0 : Option Addr) (c0 : Nat) (l0 : List (S31)) (a1 : Int) (r : Bool) (w : World) (hr0 : Kd.C k31 w A0 l0.length l0) (hc0 : l0.length ≤ c0) (h : mapmakerlaw26_GeneralizeKeeps.f k l0 a1 = some r) (hT : r = true) :
  Calls Try.prog 6 #[.slice A0 l0.length c0, .int .i64 a1] w fun e w' => e = .returned (.bool r) ∧ Below w.heap.size w w' := by
 have hu31 := Try.underlying31
 have hu40 := Try.underlying40
 have HR0 := aM hr0
 have HC0 := aM hc0
 clear hr0 hc0
 have HB := aM (Below.refl w.heap.size w)
 have H : ((mapmakerlaw26_few.f k l0).bind fun t327 => (if t327 = true then ((generalize_Lines.f k l0 a1).bind fun t329 => ((generalize_Fixed.f l0).bind fun t332 => (if (t329.length : Int) = (l0.length : Int) then ((generalize_Lines.f k t329 a1).bind fun t335 => ((mapmakerlaw26_all.f k t335 t329).bind fun t338 => (mapmakerlaw26_GeneralizeKeeps.j0 k l0 t329 t332 (!t338)))) else (mapmakerlaw26_GeneralizeKeeps.j0 k l0 t329 t332 true)))) else ((mapmakerlaw26_lives.f k).bind fun t328 => (some t328)))) = some r := h
 clear h
 replace H := Option.bind_eq_some_iff.mp H
 obtain ⟨t327, A30, H⟩ := H
 try dsimp only at H
 have A3 := aM A30
 clear A30
 by_cases c4 : t327 = true
 ·as_aux_lemma =>
  subst c4
  have H1 : ((generalize_Lines.f k l0 a1).bind fun t329 => ((generalize_Fixed.f l0).bind fun t332 => (if (t329.length : Int) = (l0.length : Int) then ((generalize_Lines.f k t329 a1).bind fun t335 => ((mapmakerlaw26_all.f k t335 t329).bind fun t338 => (mapmakerlaw26_GeneralizeKeeps.j0 k l0 t329 t332 (!t338)))) else (mapmakerlaw26_GeneralizeKeeps.j0 k l0 t329 t332 true)))) = some r := by rw [if_pos rfl] at H; exact H
  clear H
  have H := H1
  clear H1
  replace H := Option.bind_eq_some_iff.mp H
  obtain ⟨t329, A50, H⟩ := H
  try dsimp only at H
  have A5 := aM A50
  clear A50
  replace H := Option.bind_eq_some_iff.mp H
  obtain ⟨t332, A60, H⟩ := H
  try dsimp only at H
  have A6 := aM A60
  clear A60
  have HC7 := aM H
  clear H
  go_enter Try.func6, Try.ntmps6
  go_upto_region 4 with (first | ((with_reducible refine gate_callee (f := 7) rfl ?_); refine goesL_ (some 13) rfl rfl Try.func7 (by kernel_rfl) rfl #[.slice A0 l0.length c0] rfl (by (try simp only [List.map_toArray, List.map_cons, List.map_nil]); first | done | rfl | (simp only [List.length_drop, List.length_take]; rfl)) ?_; (with_reducible refine (mapmakerlaw26_few.calls k _ _ l0 true _ ?side1 ?side2 A3.out).mono ?_); (case side1 => repeat (first | exact HR0.out | (with_reducible refine cA ?_ _) | (with_reducible refine cN ?_ _) | (with_reducible refine cD ?_))); (case side2 => exact HC0.out); rintro e w' ⟨rfl, ⟨nd, rfl⟩⟩; refine ⟨_, rfl, ?_⟩) | ((with_reducible refine gate_callee (f := 16) rfl ?_); refine goesL_ (some 18) rfl rfl Try.func16 (by kernel_rfl) rfl #[.slice A0 l0.length c0, .int .i64 a1] rfl (by (try simp only [List.map_toArray, List.map_cons, List.map_nil]); first | done | rfl | (simp only [List.length_drop, List.length_take]; rfl)) ?_; (with_reducible refine (generalize_Lines.calls k (fun k_ => k_ < w.heap.size) _ _ l0 a1 t329 _ ?side1 A5.out).mono ?_); (case side1 => exact Kd.V_mk HC0.out (Kd.F_below (Kd.C_F k31_heap HR0.out) (bl))); rintro e w8 ⟨v330, rfl, ho0, hb⟩; refine ⟨_, rfl, ?_⟩; have HO331 := aM (Kd.N_lower (Kd.N_mono (ok' := fun k_ => True) ho0 (fun k_ hk_ => trivial)) (below_size (bl))); replace HB := aM (bS (bl) hb); (try clear hb); (try clear hb2); (try clear hk); (try clear hi); (try clear ho0)) | ((with_reducible refine gate_callee (f := 10) rfl ?_); refine goesL_ (some 20) rfl rfl Try.func10 (by kernel_rfl) rfl #[.slice A0 l0.length c0] rfl (by (try simp only [List.map_toArray, List.map_cons, List.map_nil]); first | done | rfl | (simp only [List.length_drop, List.length_take]; rfl)) ?_; (with_reducible refine (generalize_Fixed.calls _ _ l0 t332 _ ?side1 ?side2 A6.out).mono ?_); (case side1 => repeat (first | exact (Kd.C_below HR0.out HB.out) | (with_reducible refine cA ?_ _) | (with_reducible refine cN ?_ _) | (with_reducible refine cD ?_))); (case side2 => exact HC0.out); rintro e w9 ⟨v333, rfl, ho0, hb⟩; refine ⟨_, rfl, ?_⟩; replace HO331 := aM (Kd.N_elder' (by (with_reducible repeat (first | apply Kd.N_alloc | apply Kd.N_drewN | apply Kd.N_drew)); exact HO331.out) (Kd.R_base ho0) hb); have HO334 := aM (Kd.R_lower ho0 (below_size (bl))); replace HB := aM (bS (bl) hb); (try clear hb); (try clear hb2); (try clear hk); (try clear hi); (try clear ho0)))
  (try simp only [Act.put, sA, sB, sC])
  go_cut [33] (fun v33 wc => ∃ (kq : Nat) (x33_6 : Bool), v33 = .bool x33_6 ∧ Aside0 (mapmakerlaw26_GeneralizeKeeps.j0 kq l0 t329 t332 x33_6 = some r) ∧ Aside0 (kq ≤ k) ∧ Aside0 (Kd.N k31 31 wc w.heap.size (fun k_ => some k_ ≠ (v333 : Value).ownBlock) v330 t329) ∧ Aside0 (Kd.R k40 40 wc w.heap.size (fun _ => True) v333 t332) ∧ Aside0 (Below w.heap.size w wc))
  case first =>
   have H := HC7.out
   clear HC7
   by_cases c10 : (t329.length : Int) = (l0.length : Int)
   ·rw [if_pos c10] at H
    have c10b0 : ((t329.length : Int) == (l0.length : Int)) = true := beq_iff_eq.mpr c10
    have c10b1 : ((t329.length : Int) != (l0.length : Int)) = false := bne_eq_false_iff_eq.mpr c10
    have c10b2 : (t329.length == l0.length) = true := by first | simpa using c10 | (simp at c10 ⊢; omega)
    clear c10
    (first | rw [c10b0] | (simp only [i64_w, i32_w]; rw [c10b0]) | skip)
    replace H := Option.bind_eq_some_iff.mp H
    obtain ⟨t335, A110, H⟩ := H
    try dsimp only at H
    have A11 := aM A110
    clear A110
    replace H := Option.bind_eq_some_iff.mp H
    obtain ⟨t338, A120, H⟩ := H
    try dsimp only at H
    have A12 := aM A120
    clear A120
    have H' := aM H
    clear H
    obtain ⟨Ao13, co13, eo13⟩ := Kd.N_slice HO331.out
    subst eo13
    go_wp2_with (first | (go_at_call 16; (with_reducible refine (generalize_Lines.calls k (fun k_ => (True ∧ some k_ ≠ (v333 : Value).ownBlock)) _ _ t329 a1 t335 _ ?side1 A11.out).mono ?_); (case side1 => exact Kd.N_V (HO331.out)); rintro e w14 ⟨v336, rfl, ho0, hb⟩; replace HO331 := aM (Kd.N_elder' (by (with_reducible repeat (first | apply Kd.N_alloc | apply Kd.N_drewN | apply Kd.N_drew)); exact HO331.out) (Kd.N_base ho0) hb); have HO337 := aM (Kd.N_lower (Kd.N_mono (ok' := fun k_ => some k_ ≠ (v333 : Value).ownBlock) ho0 (fun k_ hk_ => Or.elim hk_ (fun hs_ => hs_.2) (fun hn_ => (Kd.fresh' (Kd.R_lt (rl HO334)) k_ hn_)))) (below_size (bl))); replace HO334 := aM (rB (rl HO334) hb); replace HB := aM (bS (bl) hb); (try clear hb); (try clear hb2); (try clear hk); (try clear hi); (try clear ho0); obtain ⟨Ao15, co15, eo15⟩ := Kd.N_slice HO337.out; subst eo15) | (go_at_call 15; (with_reducible refine (mapmakerlaw26_all.calls k _ _ t335 _ _ t329 t338 _ ?side1 ?side2 ?side3 ?side4 A12.out).mono ?_); (case side1 => repeat (first | exact (Kd.N_reads' HO337.out).2.2 | (with_reducible refine cA ?_ _) | (with_reducible refine cN ?_ _) | (with_reducible refine cD ?_))); (case side2 => exact (Kd.N_reads' HO337.out).2.1); (case side3 => repeat (first | exact (Kd.N_reads' HO331.out).2.2 | (with_reducible refine cA ?_ _) | (with_reducible refine cN ?_ _) | (with_reducible refine cD ?_))); (case side4 => exact (Kd.N_reads' HO331.out).2.1); rintro e w16 ⟨rfl, hb⟩; replace HO331 := aM (Kd.N_below (by (with_reducible repeat (first | apply Kd.N_alloc | apply Kd.N_drewN | apply Kd.N_drew)); exact HO331.out) hb); replace HO334 := aM (rB (rl HO334) hb); replace HO337 := aM (Kd.N_below (by (with_reducible repeat (first | apply Kd.N_alloc | apply Kd.N_drewN | apply Kd.N_drew)); exact HO337.out) hb); replace HB := aM (bS (bl) hb); (try clear hb); (try clear hb2); (try clear hk); (try clear hi)))
    go_meet
    case rel => exact ⟨_, (!t338), (by first | rfl | (simp; done) | (simp [*]; done)), H', ⟨by first | omega | exact Nat.le_refl _⟩, ⟨by (with_reducible repeat (first | apply Kd.N_alloc | apply Kd.N_drewN | apply Kd.N_drew)); exact Kd.N_mono HO331.out (fun _ hk => hk.1.2)⟩, ⟨by (with_reducible repeat (first | apply rA | apply rN | apply rD)); exact HO334.out⟩, ⟨bl⟩⟩
   ·rw [if_neg c10] at H
    have c10b0 : ((t329.length : Int) == (l0.length : Int)) = false := beq_eq_false_iff_ne.mpr c10
    have c10b1 : ((t329.length : Int) != (l0.length : Int)) = true := bne_iff_ne.mpr c10
    have c10b2 : (t329.length == l0.length) = false := by first | simpa using c10 | (simp at c10 ⊢; omega)
    (first | rw [c10b0] | (simp only [i64_w, i32_w]; rw [c10b0]) | skip)
    have H' := aM H
    clear H
    obtain ⟨Ao17, co17, eo17⟩ := Kd.N_slice HO331.out
    subst eo17
    go_wp2
    go_meet
    case rel => exact ⟨_, (true), (by first | rfl | (simp; done) | (simp [*]; done)), H', ⟨by first | omega | exact Nat.le_refl _⟩, ⟨by (with_reducible repeat (first | apply Kd.N_alloc | apply Kd.N_drewN | apply Kd.N_drew)); exact Kd.N_mono HO331.out (fun _ hk => hk.2)⟩, ⟨by (with_reducible repeat (first | apply rA | apply rN | apply rD)); exact HO334.out⟩, ⟨bl⟩⟩
  case rest =>
   clear HC7
   try clear c1
   try clear p2
   try clear c4
   try clear c6
   try clear c7
   try clear c10
   try clear c10b0
   try clear c10b1
   try clear c10b2
   try clear c16
   obtain ⟨kq, x33_6, rfl, HA, HJ6, HO_5, HO_6, HB⟩ := hcut
   cases kq with
   | zero => exact absurd HA.out (by simp [mapmakerlaw26_GeneralizeKeeps.j0])
   | succ kj6 =>
    have H := HA.out
    clear HA
    simp only [mapmakerlaw26_GeneralizeKeeps.j0] at H
    by_cases c18 : x33_6 = true
    ·subst c18
     have H1 : (some false) = some r := by rw [if_pos rfl] at H; exact H
     clear H
     have H := H1
     clear H1
     obtain rfl := Option.some.inj H
     cases hT
    ·replace c18 := Bool.eq_false_iff.mpr c18
     subst c18
     have H1 : (mapmakerlaw26_GeneralizeKeeps.l0 kj6 l0 t329 t332 0) = some r := by rw [if_neg (show ¬ (false = true) by decide)] at H; exact H
     clear H
     have H := H1
     clear H1
     have H' := aM H
     clear H
     go_wp2
     go_loopg [7] kj6 (fun kq v7 w' => ∃ (x7_2 : Int), v7 = .int .i64 x7_2 ∧ Aside0 (mapmakerlaw26_GeneralizeKeeps.l0 kq l0 t329 t332 x7_2 = some r) ∧ Aside0 (kq ≤ kj6) ∧ Aside0 (Kd.N k31 31 w' w.heap.size (fun k_ => some k_ ≠ (v333 : Value).ownBlock) v330 t329) ∧ Aside0 (Kd.R k40 40 w' w.heap.size (fun _ => True) v333 t332) ∧ Aside0 (Below w.heap.size w w'))
     case atStart => exact ⟨(0), (by first | rfl | (simp; done) | (simp [*]; done)), H', ⟨Nat.le_refl _⟩, ⟨by (with_reducible repeat (first | apply Kd.N_alloc | apply Kd.N_drewN | apply Kd.N_drew)); exact HO_5.out⟩, ⟨by (with_reducible repeat (first | apply rA | apply rN | apply rD)); exact HO_6.out⟩, ⟨bl⟩⟩
     case round =>
      clear H'
      try clear c1
      try clear p2
      try clear c4
      try clear c6
      try clear c7
      try clear c10
      try clear c10b0
      try clear c10b1
      try clear c10b2
      try clear c16
      try clear c18
      try clear p2
      obtain ⟨x7_2, rfl, HA, HK2, HO_5, HO_6, HB⟩ := hrel
      cases gk with
      | zero => exact absurd HA.out (by simp [mapmakerlaw26_GeneralizeKeeps.l0])
      | succ k2 =>
       have H := HA.out
       clear HA
       simp only [mapmakerlaw26_GeneralizeKeeps.l0] at H
       by_cases c19 : x7_2 < (l0.length : Int)
       ·as_aux_lemma =>
        rw [if_pos c19] at H
        have c19b0 : decide (x7_2 < (l0.length : Int)) = true := decide_eq_true c19
        clear c19
        have H' := aM H
        clear H
        go_wp2
        go_loopg [8, 9] k2 (fun kq v8 v9 w' => ∃ (x8_3 : Int) (x9_3 : Int), v8 = .int .i64 x8_3 ∧ v9 = .int .i64 x9_3 ∧ Aside0 (mapmakerlaw26_GeneralizeKeeps.l1 kq l0 t329 t332 x7_2 x8_3 x9_3 = some r) ∧ Aside0 (kq ≤ k2) ∧ Aside0 (Kd.N k31 31 w' w.heap.size (fun k_ => some k_ ≠ (v333 : Value).ownBlock) v330 t329) ∧ Aside0 (Kd.R k40 40 w' w.heap.size (fun _ => True) v333 t332) ∧ Aside0 (Below w.heap.size w w'))
        case atStart => exact ⟨(0), (0), (by first | rfl | (simp; done) | (simp [*]; done)), (by first | rfl | (simp; done) | (simp [*]; done)), H', ⟨Nat.le_refl _⟩, ⟨by (with_reducible repeat (first | apply Kd.N_alloc | apply Kd.N_drewN | apply Kd.N_drew)); exact HO_5.out⟩, ⟨by (with_reducible repeat (first | apply rA | apply rN | apply rD)); exact HO_6.out⟩, ⟨bl⟩⟩
        case round =>
         clear H'
         try clear c1
         try clear p2
         try clear c4
         try clear c6
         try clear c7
         try clear c10
         try clear c10b0
         try clear c10b1
         try clear c10b2
         try clear c16
         try clear c18
         try clear c19
         try clear c19b0
         try clear p2
         obtain ⟨x8_3, x9_3, rfl, rfl, HA, HK3, HO_5, HO_6, HB⟩ := hrel
         cases gk with
         | zero => exact absurd HA.out (by simp [mapmakerlaw26_GeneralizeKeeps.l1])
         | succ k3 =>
          have H := HA.out
          clear HA
          simp only [mapmakerlaw26_GeneralizeKeeps.l1] at H
          have HC20 := aM H
          clear H
          go_upto_region 11 with (fail)
          go_cut [54] (fun v54 wc => ∃ (kq : Nat) (x54_19 : Bool), v54 = .bool x54_19 ∧ Aside0 (mapmakerlaw26_GeneralizeKeeps.j3 kq l0 t329 t332 x7_2 x8_3 x9_3 x54_19 = some r) ∧ Aside0 (kq ≤ k3) ∧ Aside0 (Kd.N k31 31 wc w.heap.size (fun k_ => some k_ ≠ (v333 : Value).ownBlock) v330 t329) ∧ Aside0 (Kd.R k40 40 wc w.heap.size (fun _ => True) v333 t332) ∧ Aside0 (Below w.heap.size w wc))
          case first =>
           have H := HC20.out
           clear HC20
           by_cases c21 : 0 ≤ x7_2
           ·rw [if_pos c21] at H
            have c21b0 : decide (0 ≤ x7_2) = true := decide_eq_true c21
            clear c21
            (first | rw [c21b0] | (simp only [i64_w, i32_w]; rw [c21b0]) | skip)
            by_cases c22 : x7_2 < (l0.length : Int)
            ·rw [if_pos c22] at H
             have c22b0 : decide (x7_2 < (l0.length : Int)) = true := decide_eq_true c22
             clear c22
             by_cases c23 : x9_3 < (((rd_T31 l0 x7_2).f1).length : Int)
             ·rw [if_pos c23] at H
              have c23b0 : decide (x9_3 < (((rd_T31 l0 x7_2).f1).length : Int)) = true := decide_eq_true c23
              clear c23
              replace H := Option.bind_eq_some_iff.mp H
              obtain ⟨t342, A240, H⟩ := H
              try dsimp only at H
              have A24 := aM A240
              clear A240
              have H' := aM H
              clear H
              have p340 : 0 ≤ (x7_2 : Int) := of_decide_eq_true (by first | (with_reducible assumption) | assumption)
              have q340 : x7_2 < (l0.length : Int) := of_decide_eq_true (by first | (with_reducible assumption) | assumption)
              obtain ⟨ad340, A340_1, c340_1, A340_2, c340_2, A340_3, c340_3, e340, hx340_0, hx340_1, hx340_2, hx340_3, hl340_1, hi340_1, hl340_2, hi340_2, hl340_3, hi340_3⟩ := at_T31 HR0.out x7_2 p340 q340
              cases e340
              replace hx340_0 := (HB.out.cell (World.block_lt_of_cell? w _ hx340_0)).trans hx340_0
              replace hx340_1 := (HB.out.cell (World.block_lt_of_cell? w _ hx340_1)).trans hx340_1
              replace hx340_2 := (HB.out.cell (World.block_lt_of_cell? w _ hx340_2)).trans hx340_2
              replace hx340_3 := (HB.out.cell (World.block_lt_of_cell? w _ hx340_3)).trans hx340_3
              have HR340_1 := aM hi340_1
              have HC340_1 := aM hl340_1
              clear hi340_1 hl340_1
              have HR340_2 := aM hi340_2
              have HC340_2 := aM hl340_2
              clear hi340_2 hl340_2
              have HR340_3 := aM hi340_3
              have HC340_3 := aM hl340_3
              clear hi340_3 hl340_3
              replace p340 := eq_true p340
              replace q340 := eq_true q340
              have p341 : 0 ≤ (x7_2 : Int) := of_decide_eq_true (by first | (with_reducible assumption) | assumption)
              have q341 : x7_2 < (l0.length : Int) := of_decide_eq_true (by first | (with_reducible assumption) | assumption)
              obtain ⟨ad341, A341_1, c341_1, A341_2, c341_2, A341_3, c341_3, e341, hx341_0, hx341_1, hx341_2, hx341_3, hl341_1, hi341_1, hl341_2, hi341_2, hl341_3, hi341_3⟩ := at_T31 HR0.out x7_2 p341 q341
              obtain rfl : ad340 = ad341 := (by injection e341)
              replace hx341_0 := (HB.out.cell (World.block_lt_of_cell? w _ hx341_0)).trans hx341_0
              replace hx341_1 := (HB.out.cell (World.block_lt_of_cell? w _ hx341_1)).trans hx341_1
              replace hx341_2 := (HB.out.cell (World.block_lt_of_cell? w _ hx341_2)).trans hx341_2
              replace hx341_3 := (HB.out.cell (World.block_lt_of_cell? w _ hx341_3)).trans hx341_3
              have HR341_1 := aM hi341_1
              have HC341_1 := aM hl341_1
              clear hi341_1 hl341_1
              have HR341_2 := aM hi341_2
              have HC341_2 := aM hl341_2
              clear hi341_2 hl341_2
              have HR341_3 := aM hi341_3
              have HC341_3 := aM hl341_3
              clear hi341_3 hl341_3
              replace p341 := eq_true p341
              replace q341 := eq_true q341
              have ea_ := Option.some.inj (hx340_1.symm.trans hx341_1)
              injection ea_ with ea_ en_ ec_
              subst ea_
              subst ec_
              clear en_
              have ea_ := Option.some.inj (hx340_2.symm.trans hx341_2)
              injection ea_ with ea_ en_ ec_
              subst ea_
              subst ec_
              clear en_
              have ea_ := Option.some.inj (hx340_3.symm.trans hx341_3)
              injection ea_ with ea_ en_ ec_
              subst ea_
              subst ec_
              clear en_
              go_wp2_with (first | (go_at_call 18; (with_reducible refine (mapmakerref26_Good.calls k3 ((rd_T31 l0 x7_2).f0) _ _ ((rd_T31 l0 x7_2).f1) _ _ ((rd_T31 l0 x7_2).f2) _ _ ((rd_T31 l0 x7_2).f3) t342 _ ?side1 ?side2 ?side3 ?side4 ?side5 ?side6 A24.out).mono ?_); (case side1 => repeat (first | exact (Kd.C_below HR341_1.out HB.out) | (with_reducible refine cA ?_ _) | (with_reducible refine cN ?_ _) | (with_reducible refine cD ?_))); (case side2 => exact HC341_1.out); (case side3 => repeat (first | exact (Kd.C_below HR341_2.out HB.out) | (with_reducible refine cA ?_ _) | (with_reducible refine cN ?_ _) | (with_reducible refine cD ?_))); (case side4 => exact HC341_2.out); (case side5 => repeat (first | exact (Kd.C_below HR341_3.out HB.out) | (with_reducible refine cA ?_ _) | (with_reducible refine cN ?_ _) | (with_reducible refine cD ?_))); (case side6 => exact HC341_3.out); rintro e w25 ⟨rfl, hb⟩; replace HO_5 := aM (Kd.N_below (by (with_reducible repeat (first | apply Kd.N_alloc | apply Kd.N_drewN | apply Kd.N_drew)); exact HO_5.out) hb); replace HO_6 := aM (rB (rl HO_6) hb); replace HB := aM (bS (bl) hb); (try clear hb); (try clear hb2); (try clear hk); (try clear hi)))
              go_meet
              case rel => exact ⟨_, (t342), (by first | rfl | (simp; done) | (simp [*]; done)), H', ⟨by have := HJ6.out; have := HK2.out; have := HK3.out; first | omega | exact Nat.le_refl _⟩, ⟨by (with_reducible repeat (first | apply Kd.N_alloc | apply Kd.N_drewN | apply Kd.N_drew)); exact HO_5.out⟩, ⟨by (with_reducible repeat (first | apply rA | apply rN | apply rD)); exact HO_6.out⟩, ⟨bl⟩⟩
             ·rw [if_neg c23] at H
              have c23b0 : decide (x9_3 < (((rd_T31 l0 x7_2).f1).length : Int)) = false := decide_eq_false c23
              clear c23
              have H' := aM H
              clear H
              have p340 : 0 ≤ (x7_2 : Int) := of_decide_eq_true (by first | (with_reducible assumption) | assumption)
              have q340 : x7_2 < (l0.length : Int) := of_decide_eq_true (by first | (with_reducible assumption) | assumption)
              obtain ⟨ad340, A340_1, c340_1, A340_2, c340_2, A340_3, c340_3, e340, hx340_0, hx340_1, hx340_2, hx340_3, hl340_1, hi340_1, hl340_2, hi340_2, hl340_3, hi340_3⟩ := at_T31 HR0.out x7_2 p340 q340
              cases e340
              replace hx340_0 := (HB.out.cell (World.block_lt_of_cell? w _ hx340_0)).trans hx340_0
              replace hx340_1 := (HB.out.cell (World.block_lt_of_cell? w _ hx340_1)).trans hx340_1
              replace hx340_2 := (HB.out.cell (World.block_lt_of_cell? w _ hx340_2)).trans hx340_2
              replace hx340_3 := (HB.out.cell (World.block_lt_of_cell? w _ hx340_3)).trans hx340_3
              have HR340_1 := aM hi340_1
              have HC340_1 := aM hl340_1
              clear hi340_1 hl340_1
              have HR340_2 := aM hi340_2
              have HC340_2 := aM hl340_2
              clear hi340_2 hl340_2
              have HR340_3 := aM hi340_3
              have HC340_3 := aM hl340_3
              clear hi340_3 hl340_3
              replace p340 := eq_true p340
              replace q340 := eq_true q340
              go_wp2
              go_meet
              case rel => exact ⟨_, (false), (by first | rfl | (simp; done) | (simp [*]; done)), H', ⟨by have := HJ6.out; have := HK2.out; have := HK3.out; first | omega | exact Nat.le_refl _⟩, ⟨by (with_reducible repeat (first | apply Kd.N_alloc | apply Kd.N_drewN | apply Kd.N_drew)); exact HO_5.out⟩, ⟨by (with_reducible repeat (first | apply rA | apply rN | apply rD)); exact HO_6.out⟩, ⟨bl⟩⟩
            ·rw [if_neg c22] at H
             exact absurd H (by simp)
           ·rw [if_neg c21] at H
            exact absurd H (by simp)
          case rest =>
           clear HC20
           try clear c1
           try clear c2
           try clear p2
           try clear c3
           try clear p3
           try clear q3
           try clear hx3
           try clear c4
           try clear c6
           try clear c7
           try clear c10
           try clear c10b0
           try clear c10b1
           try clear c10b2
           try clear c16
           try clear c18
           try clear c19
           try clear c19b0
           try clear c21
           try clear c21b0
           try clear c22
           try clear c22b0
           try clear c23
           try clear c23b0
           try clear hx340_0
           try clear hx340_1
           try clear hx340_2
           try clear hx340_3
           try clear hx341_0
           try clear hx341_1
           try clear hx341_2
           try clear hx341_3
           try clear p2
           try clear p340
           try clear p341
           try clear q340
           try clear q341
           obtain ⟨kq, x54_19, rfl, HA, HJ19, HO_5, HO_6, HB⟩ := hcut
           cases kq with
           | zero => exact absurd HA.out (by simp [mapmakerlaw26_GeneralizeKeeps.j3])
           | succ kj19 =>
            have H := HA.out
            clear HA
            simp only [mapmakerlaw26_GeneralizeKeeps.j3] at H
            by_cases c26 : x54_19 = true
            ·subst c26
             have H1 : (if 0 ≤ x7_2 then (if x7_2 < (l0.length : Int) then (if 0 ≤ x9_3 then (if x9_3 < (((rd_T31 l0 x7_2).f1).length : Int) then (if x7_2 < (t329.length : Int) then (if x8_3 < (((rd_T31 t329 x7_2).f1).length : Int) then (if x8_3 < (((rd_T31 t329 x7_2).f2).length : Int) then (if 0 ≤ x8_3 then (if (((rd_T40 ((rd_T31 t329 x7_2).f1) x8_3).f0) == ((rd_T40 ((rd_T31 l0 x7_2).f1) x9_3).f0) && (((rd_T40 ((rd_T31 t329 x7_2).f1) x8_3).f1) == ((rd_T40 ((rd_T31 l0 x7_2).f1) x9_3).f1))) = true then (if x9_3 < (((rd_T31 l0 x7_2).f2).length : Int) then (mapmakerlaw26_GeneralizeKeeps.j4 kj19 l0 t329 t332 x7_2 x8_3 x9_3 ((rd ((rd_T31 t329 x7_2).f2) x8_3) == (rd ((rd_T31 l0 x7_2).f2) x9_3)) ((rd_T40 ((rd_T31 l0 x7_2).f1) x9_3).f0) ((rd_T40 ((rd_T31 l0 x7_2).f1) x9_3).f1)) else (none)) else (mapmakerlaw26_GeneralizeKeeps.j4 kj19 l0 t329 t332 x7_2 x8_3 x9_3 false ((rd_T40 ((rd_T31 l0 x7_2).f1) x9_3).f0) ((rd_T40 ((rd_T31 l0 x7_2).f1) x9_3).f1))) else (none)) else (none)) else (mapmakerlaw26_GeneralizeKeeps.j4 kj19 l0 t329 t332 x7_2 x8_3 x9_3 false ((rd_T40 ((rd_T31 l0 x7_2).f1) x9_3).f0) ((rd_T40 ((rd_T31 l0 x7_2).f1) x9_3).f1))) else (none)) else (none)) else (none)) else (none)) else (none)) = some r := by rw [if_pos rfl] at H; exact H
             clear H
             have H := H1
             clear H1
             by_cases c27 : 0 ≤ x7_2
             ·rw [if_pos c27] at H
              have c27b0 : decide (0 ≤ x7_2) = true := decide_eq_true c27
              clear c27
              by_cases c28 : x7_2 < (l0.length : Int)
              ·rw [if_pos c28] at H
               have c28b0 : decide (x7_2 < (l0.length : Int)) = true := decide_eq_true c28
               clear c28
               by_cases c29 : 0 ≤ x9_3
               ·rw [if_pos c29] at H
                have c29b0 : decide (0 ≤ x9_3) = true := decide_eq_true c29
                clear c29
                by_cases c30 : x9_3 < (((rd_T31 l0 x7_2).f1).length : Int)
                ·as_aux_lemma =>
                 rw [if_pos c30] at H
                 have c30b0 : decide (x9_3 < (((rd_T31 l0 x7_2).f1).length : Int)) = true := decide_eq_true c30
                 clear c30
                 have HC31 := aM H
                 clear H
                 have p343 : 0 ≤ (x7_2 : Int) := of_decide_eq_true (by first | (with_reducible assumption) | assumption)
                 have q343 : x7_2 < (l0.length : Int) := of_decide_eq_true (by first | (with_reducible assumption) | assumption)
                 obtain ⟨ad343, A343_1, c343_1, A343_2, c343_2, A343_3, c343_3, e343, hx343_0, hx343_1, hx343_2, hx343_3, hl343_1, hi343_1, hl343_2, hi343_2, hl343_3, hi343_3⟩ := at_T31 HR0.out x7_2 p343 q343
                 cases e343
                 replace hx343_0 := (HB.out.cell (World.block_lt_of_cell? w _ hx343_0)).trans hx343_0
                 replace hx343_1 := (HB.out.cell (World.block_lt_of_cell? w _ hx343_1)).trans hx343_1
                 replace hx343_2 := (HB.out.cell (World.block_lt_of_cell? w _ hx343_2)).trans hx343_2
                 replace hx343_3 := (HB.out.cell (World.block_lt_of_cell? w _ hx343_3)).trans hx343_3
                 have HR343_1 := aM hi343_1
                 have HC343_1 := aM hl343_1
                 clear hi343_1 hl343_1
                 have HR343_2 := aM hi343_2
                 have HC343_2 := aM hl343_2
                 clear hi343_2 hl343_2
                 have HR343_3 := aM hi343_3
                 have HC343_3 := aM hl343_3
                 clear hi343_3 hl343_3
                 replace p343 := eq_true p343
                 replace q343 := eq_true q343
                 have p344 : 0 ≤ (x9_3 : Int) := of_decide_eq_true (by first | (with_reducible assumption) | assumption)
                 have q344 : x9_3 < (((rd_T31 l0 x7_2).f1).length : Int) := of_decide_eq_true (by first | (with_reducible assumption) | assumption)
                 obtain ⟨ad344, e344, hx344_0, hx344_1⟩ := at_T40 HR343_1.out x9_3 p344 q344
                 cases e344
                 replace hx344_0 := (HB.out.cell (World.block_lt_of_cell? w _ hx344_0)).trans hx344_0
                 replace hx344_1 := (HB.out.cell (World.block_lt_of_cell? w _ hx344_1)).trans hx344_1
                 replace p344 := eq_true p344
                 replace q344 := eq_true q344
                 go_upto_region 14 with (first | ((with_reducible refine gate_dst (N := 10) rfl ?_); (try (refine gate_guard (by rfl) ?_; dsimp only)); refine box_event ?hg (N := 10) ?hd (cs := #[.int .i64 0, .int .i64 0]) (t := 40) ?hr ?_; (case hd => rfl); (case hg => rfl); (case hr => first | (go_simp; done) | (go_simp; rfl)); intro gb345 hg w32 hbox hb; have n0_ := aM (Kd.N_below (Kd.N_elderB (by (with_reducible repeat (first | apply Kd.N_alloc | apply Kd.N_drewN | apply Kd.N_drew)); exact HO_5.out) gb345 (Nat.le_of_eq hg.symm)) hb); have n1_ := aM (rB (rL (rl HO_6) gb345 (Nat.le_of_eq hg.symm)) hb); have n2_ := aM (bS (bl) hb); have n3_ := aM (hbox); have n4_ := aM ((by rw [hg]; exact (below_size (bl)) : w.heap.size ≤ gb345)); have n5_ := aM ((by rw [hg]; exact (below_size (bl)) : w.heap.size ≤ gb345)); clear HO_5 HO_6 HB; have HO_5 := n0_; have HO_6 := n1_; have HB := n2_; have BK345 := n3_; have GW345 := n4_; have GE345 := n5_; clear n0_ n1_ n2_ n3_ n4_ n5_ hb hbox hg; have hcz33_0 : w32.cell? ⟨gb345, 0, none⟩ = some (.int .i64 0) := (kC BK345.out 0).trans rfl; have hcz33_1 : w32.cell? ⟨gb345, 1, none⟩ = some (.int .i64 0) := (kC BK345.out 1).trans rfl; have hfz33_0 := kF BK345.out 0; have hfz33_1 := kF BK345.out 1))
                 (try simp only [Act.put, sA, sB, sC])
                 go_cut [11] (fun v11 wc => ∃ (kq : Nat) (x11_30 : Bool), v11 = .bool x11_30 ∧ Aside0 (mapmakerlaw26_GeneralizeKeeps.j4 kq l0 t329 t332 x7_2 x8_3 x9_3 x11_30 ((rd_T40 ((rd_T31 l0 x7_2).f1) x9_3).f0) ((rd_T40 ((rd_T31 l0 x7_2).f1) x9_3).f1) = some r) ∧ Aside0 (kq ≤ kj19) ∧ Aside0 (Kd.N k31 31 wc w.heap.size (fun k_ => some k_ ≠ (v333 : Value).ownBlock ∧ k_ ≠ gb345) v330 t329) ∧ Aside0 (Kd.R k40 40 wc w.heap.size (fun k_ => k_ ≠ gb345) v333 t332) ∧ Aside0 (wc.heap[gb345]? = some (.cells #[.int .i64 ((rd_T40 ((rd_T31 l0 x7_2).f1) x9_3).f0), .int .i64 ((rd_T40 ((rd_T31 l0 x7_2).f1) x9_3).f1)] 40 (0, 0))) ∧ Aside0 (Below w.heap.size w wc))
                 case first =>
                  have H := HC31.out
                  clear HC31
                  by_cases c34 : x7_2 < (t329.length : Int)
                  ·rw [if_pos c34] at H
                   have c34b0 : decide (x7_2 < (t329.length : Int)) = true := decide_eq_true c34
                   clear c34
                   (first | rw [c34b0] | (simp only [i64_w, i32_w]; rw [c34b0]) | skip)
                   by_cases c35 : x8_3 < (((rd_T31 t329 x7_2).f1).length : Int)
                   ·rw [if_pos c35] at H
                    have c35b0 : decide (x8_3 < (((rd_T31 t329 x7_2).f1).length : Int)) = true := decide_eq_true c35
                    clear c35
                    by_cases c36 : x8_3 < (((rd_T31 t329 x7_2).f2).length : Int)
                    ·rw [if_pos c36] at H
                     have c36b0 : decide (x8_3 < (((rd_T31 t329 x7_2).f2).length : Int)) = true := decide_eq_true c36
                     clear c36
                     by_cases c37 : 0 ≤ x8_3
                     ·rw [if_pos c37] at H
                      have c37b0 : decide (0 ≤ x8_3) = true := decide_eq_true c37
                      clear c37
                      by_cases c38 : (((rd_T40 ((rd_T31 t329 x7_2).f1) x8_3).f0) == ((rd_T40 ((rd_T31 l0 x7_2).f1) x9_3).f0) && (((rd_T40 ((rd_T31 t329 x7_2).f1) x8_3).f1) == ((rd_T40 ((rd_T31 l0 x7_2).f1) x9_3).f1))) = true
                      ·rw [if_pos c38] at H
                       have c38b0 : (((rd_T40 ((rd_T31 t329 x7_2).f1) x8_3).f0) == ((rd_T40 ((rd_T31 l0 x7_2).f1) x9_3).f0) && (((rd_T40 ((rd_T31 t329 x7_2).f1) x8_3).f1) == ((rd_T40 ((rd_T31 l0 x7_2).f1) x9_3).f1))) = true := c38
                       (try (have c38b1 : decide (((rd_T40 ((rd_T31 t329 x7_2).f1) x8_3).f0) = ((rd_T40 ((rd_T31 l0 x7_2).f1) x9_3).f0) && (((rd_T40 ((rd_T31 t329 x7_2).f1) x8_3).f1) == ((rd_T40 ((rd_T31 l0 x7_2).f1) x9_3).f1))) = true := by simpa using c38))
                       (try (have c38b2 : (((rd_T40 ((rd_T31 t329 x7_2).f1) x8_3).f0) == ((rd_T40 ((rd_T31 l0 x7_2).f1) x9_3).f0) && (((rd_T40 ((rd_T31 t329 x7_2).f1) x8_3).f1) == ((rd_T40 ((rd_T31 l0 x7_2).f1) x9_3).f1))) = true := by simpa using c38))
                       clear c38
                       by_cases c39 : x9_3 < (((rd_T31 l0 x7_2).f2).length : Int)
                       ·as_aux_lemma =>
                        rw [if_pos c39] at H
                        have c39b0 : decide (x9_3 < (((rd_T31 l0 x7_2).f2).length : Int)) = true := decide_eq_true c39
                        clear c39
                        have H' := aM H
                        clear H
                        try go_wp2
                        have n0_ : Aside0 (Kd.N k31 31 ((w32.setCell ⟨gb345, 0, none⟩ (.int .i64 ((rd_T40 ((rd_T31 l0 x7_2).f1) x9_3).f0))).setCell ⟨gb345, 1, none⟩ (.int .i64 ((rd_T40 ((rd_T31 l0 x7_2).f1) x9_3).f1))) w.heap.size (fun k_ => some k_ ≠ (v333 : Value).ownBlock ∧ k_ ≠ gb345) v330 t329) := ⟨by (with_reducible repeat (first | apply Kd.N_alloc | apply Kd.N_drewN | apply Kd.N_drew)); exact Kd.N_mono (Kd.N_far (p := ⟨gb345, 1, none⟩) (Kd.N_far (p := ⟨gb345, 0, none⟩) (Kd.N_mono HO_5.out (fun k_ hk => (⟨hk, hk.2⟩ : _ ∧ k_ ≠ gb345))) (fun _ hk => hk.2) (.int .i64 ((rd_T40 ((rd_T31 l0 x7_2).f1) x9_3).f0))) (fun _ hk => hk.2) (.int .i64 ((rd_T40 ((rd_T31 l0 x7_2).f1) x9_3).f1))) (fun _ hk => ⟨hk.1.1, hk.1.2⟩)⟩
                        have n1_ : Aside0 (Kd.R k40 40 ((w32.setCell ⟨gb345, 0, none⟩ (.int .i64 ((rd_T40 ((rd_T31 l0 x7_2).f1) x9_3).f0))).setCell ⟨gb345, 1, none⟩ (.int .i64 ((rd_T40 ((rd_T31 l0 x7_2).f1) x9_3).f1))) w.heap.size (fun k_ => k_ ≠ gb345) v333 t332) := ⟨by (with_reducible repeat (first | apply rA | apply rN | apply rD)); exact rM (Kd.R_far (p := ⟨gb345, 1, none⟩) (Kd.R_far (p := ⟨gb345, 0, none⟩) (rM HO_6.out (fun k_ hk => (⟨hk, hk.2⟩ : _ ∧ k_ ≠ gb345))) (fun _ hk => hk.2) (.int .i64 ((rd_T40 ((rd_T31 l0 x7_2).f1) x9_3).f0))) (fun _ hk => hk.2) (.int .i64 ((rd_T40 ((rd_T31 l0 x7_2).f1) x9_3).f1))) (fun _ hk => hk.1.2)⟩
                        have n2_ : Aside0 (((w32.setCell ⟨gb345, 0, none⟩ (.int .i64 ((rd_T40 ((rd_T31 l0 x7_2).f1) x9_3).f0))).setCell ⟨gb345, 1, none⟩ (.int .i64 ((rd_T40 ((rd_T31 l0 x7_2).f1) x9_3).f1))).heap[gb345]? = some (.cells #[.int .i64 ((rd_T40 ((rd_T31 l0 x7_2).f1) x9_3).f0), .int .i64 ((rd_T40 ((rd_T31 l0 x7_2).f1) x9_3).f1)] 40 (0, 0))) := ⟨by (with_reducible repeat (first | refine kN ?_ _ | refine kD ?_ | refine kA ?_ _)); refine kP (cs := #[.int .i64 ((rd_T40 ((rd_T31 l0 x7_2).f1) x9_3).f0), .int .i64 0]) ?_ 1 _ rfl; (with_reducible repeat (first | refine kN ?_ _ | refine kD ?_ | refine kA ?_ _)); refine kP (cs := #[.int .i64 0, .int .i64 0]) ?_ 0 _ rfl; (with_reducible repeat (first | refine kN ?_ _ | refine kD ?_ | refine kA ?_ _)); exact BK345.out⟩
                        have n3_ : Aside0 (Below w.heap.size w ((w32.setCell ⟨gb345, 0, none⟩ (.int .i64 ((rd_T40 ((rd_T31 l0 x7_2).f1) x9_3).f0))).setCell ⟨gb345, 1, none⟩ (.int .i64 ((rd_T40 ((rd_T31 l0 x7_2).f1) x9_3).f1)))) := ⟨bl⟩
                        (try clear HO_5)
                        (try clear HO_6)
                        (try clear BK345)
                        (try clear HB)
                        generalize ((w32.setCell ⟨gb345, 0, none⟩ (.int .i64 ((rd_T40 ((rd_T31 l0 x7_2).f1) x9_3).f0))).setCell ⟨gb345, 1, none⟩ (.int .i64 ((rd_T40 ((rd_T31 l0 x7_2).f1) x9_3).f1))) = w40 at n0_ n1_ n2_ n3_ ⊢
                        have HO_5 := n0_
                        have HO_6 := n1_
                        have BK345 := n2_
                        have HB := n3_
                        clear n0_ n1_ n2_ n3_
                        replace HO_5 := aM (Kd.N_drew HO_5.out)
                        replace HO_6 := aM (rD HO_6.out)
                        replace BK345 := aM (kD BK345.out)
                        replace HB := aM (bD HB.out)
                        obtain ⟨Ao42, co42, eo42⟩ := Kd.N_slice HO_5.out
                        (first | subst eo42 | (injection eo42 with f1_ f2_ f3_; have f4_ := f1_.symm; have f5_ := f3_.symm; clear f1_ f2_ f3_; subst f4_; subst f5_))
                        have p346 : 0 ≤ (x7_2 : Int) := of_decide_eq_true (by first | (with_reducible assumption) | assumption)
                        have q346 : x7_2 < (t329.length : Int) := of_decide_eq_true (by first | (with_reducible assumption) | assumption)
                        obtain ⟨ad346, A346_1, c346_1, A346_2, c346_2, A346_3, c346_3, e346, hx346_0, hx346_1, hx346_2, hx346_3, hl346_1, hi346_1, hl346_2, hi346_2, hl346_3, hi346_3⟩ := at_T31 (Kd.N_reads' HO_5.out).2.2 x7_2 p346 q346
                        cases e346
                        obtain ⟨ce346, hce346, hMe346, hcc346⟩ := Kd.N_get HO_5.out z31 x7_2 p346 (by first | exact q346 | exact of_decide_eq_true (by first | (with_reducible assumption) | assumption) | (have e_ := (Kd.N_reads' HO_5.out).1; omega))
                        obtain ⟨ua346_1, uc346_1, ua346_2, uc346_2, ua346_3, uc346_3, rfl, ul346_1, ge346_1, ul346_2, ge346_2, ul346_3, ge346_3⟩ := k31_openF hMe346
                        have hv346_1 := hcc346 1 _ rfl
                        rw [add_field _ _ 1 (by omega)] at hv346_1
                        replace hv346_1 := Option.some.inj (hv346_1.symm.trans hx346_1)
                        injection hv346_1 with hva_ hvn_ hvc_
                        rw [hva_] at ge346_1
                        rw [hvc_] at ul346_1
                        have HL346_1 := aM (show Kd.V k40 40 _ w.heap.size _ _ ((rd_T31 t329 x7_2).f1) from Kd.V_mk ul346_1 ge346_1)
                        clear hva_ hvn_ hvc_ ge346_1 ul346_1
                        have hv346_2 := hcc346 2 _ rfl
                        rw [add_field _ _ 2 (by omega)] at hv346_2
                        replace hv346_2 := Option.some.inj (hv346_2.symm.trans hx346_2)
                        injection hv346_2 with hva_ hvn_ hvc_
                        rw [hva_] at ge346_2
                        rw [hvc_] at ul346_2
                        have HL346_2 := aM (show Kd.V (Kd.int .i64) 3 _ w.heap.size _ _ ((rd_T31 t329 x7_2).f2) from Kd.V_mk ul346_2 ge346_2)
                        clear hva_ hvn_ hvc_ ge346_2 ul346_2
                        have hv346_3 := hcc346 3 _ rfl
                        rw [add_field _ _ 3 (by omega)] at hv346_3
                        replace hv346_3 := Option.some.inj (hv346_3.symm.trans hx346_3)
                        injection hv346_3 with hva_ hvn_ hvc_
                        rw [hva_] at ge346_3
                        rw [hvc_] at ul346_3
                        have HL346_3 := aM (show Kd.V k80 80 _ w.heap.size _ _ ((rd_T31 t329 x7_2).f3) from Kd.V_mk ul346_3 ge346_3)
                        clear hva_ hvn_ hvc_ ge346_3 ul346_3 hcc346 hce346
                        have HR346_1 := aM hi346_1
                        have HC346_1 := aM hl346_1
                        clear hi346_1 hl346_1
                        have HR346_2 := aM hi346_2
                        have HC346_2 := aM hl346_2
                        clear hi346_2 hl346_2
                        have HR346_3 := aM hi346_3
                        have HC346_3 := aM hl346_3
                        clear hi346_3 hl346_3
                        replace p346 := eq_true p346
                        replace q346 := eq_true q346
                        have p347 : 0 ≤ (x7_2 : Int) := of_decide_eq_true (by first | (with_reducible assumption) | assumption)
                        have q347 : x7_2 < (t329.length : Int) := of_decide_eq_true (by first | (with_reducible assumption) | assumption)
                        obtain ⟨ad347, A347_1, c347_1, A347_2, c347_2, A347_3, c347_3, e347, hx347_0, hx347_1, hx347_2, hx347_3, hl347_1, hi347_1, hl347_2, hi347_2, hl347_3, hi347_3⟩ := at_T31 (Kd.N_reads' HO_5.out).2.2 x7_2 p347 q347
                        obtain rfl : ad346 = ad347 := (by injection e347)
                        obtain ⟨ce347, hce347, hMe347, hcc347⟩ := Kd.N_get HO_5.out z31 x7_2 p347 (by first | exact q347 | exact of_decide_eq_true (by first | (with_reducible assumption) | assumption) | (have e_ := (Kd.N_reads' HO_5.out).1; omega))
                        obtain ⟨ua347_1, uc347_1, ua347_2, uc347_2, ua347_3, uc347_3, rfl, ul347_1, ge347_1, ul347_2, ge347_2, ul347_3, ge347_3⟩ := k31_openF hMe347
                        have hv347_1 := hcc347 1 _ rfl
                        rw [add_field _ _ 1 (by omega)] at hv347_1
                        replace hv347_1 := Option.some.inj (hv347_1.symm.trans hx347_1)
                        injection hv347_1 with hva_ hvn_ hvc_
                        rw [hva_] at ge347_1
                        rw [hvc_] at ul347_1
                        have HL347_1 := aM (show Kd.V k40 40 _ w.heap.size _ _ ((rd_T31 t329 x7_2).f1) from Kd.V_mk ul347_1 ge347_1)
                        clear hva_ hvn_ hvc_ ge347_1 ul347_1
                        have hv347_2 := hcc347 2 _ rfl
                        rw [add_field _ _ 2 (by omega)] at hv347_2
                        replace hv347_2 := Option.some.inj (hv347_2.symm.trans hx347_2)
                        injection hv347_2 with hva_ hvn_ hvc_
                        rw [hva_] at ge347_2
                        rw [hvc_] at ul347_2
                        have HL347_2 := aM (show Kd.V (Kd.int .i64) 3 _ w.heap.size _ _ ((rd_T31 t329 x7_2).f2) from Kd.V_mk ul347_2 ge347_2)
                        clear hva_ hvn_ hvc_ ge347_2 ul347_2
                        have hv347_3 := hcc347 3 _ rfl
                        rw [add_field _ _ 3 (by omega)] at hv347_3
                        replace hv347_3 := Option.some.inj (hv347_3.symm.trans hx347_3)
                        injection hv347_3 with hva_ hvn_ hvc_
                        rw [hva_] at ge347_3
                        rw [hvc_] at ul347_3
                        have HL347_3 := aM (show Kd.V k80 80 _ w.heap.size _ _ ((rd_T31 t329 x7_2).f3) from Kd.V_mk ul347_3 ge347_3)
                        clear hva_ hvn_ hvc_ ge347_3 ul347_3 hcc347 hce347
                        have HR347_1 := aM hi347_1
                        have HC347_1 := aM hl347_1
                        clear hi347_1 hl347_1
                        have HR347_2 := aM hi347_2
                        have HC347_2 := aM hl347_2
                        clear hi347_2 hl347_2
                        have HR347_3 := aM hi347_3
                        have HC347_3 := aM hl347_3
                        clear hi347_3 hl347_3
                        replace p347 := eq_true p347
                        replace q347 := eq_true q347
                        have ea_ := Option.some.inj (hx346_1.symm.trans hx347_1)
                        injection ea_ with ea_ en_ ec_
                        subst ea_
                        subst ec_
                        clear en_
                        have ea_ := Option.some.inj (hx346_2.symm.trans hx347_2)
                        injection ea_ with ea_ en_ ec_
                        subst ea_
                        subst ec_
                        clear en_
                        have ea_ := Option.some.inj (hx346_3.symm.trans hx347_3)
                        injection ea_ with ea_ en_ ec_
                        subst ea_
                        subst ec_
                        clear en_
                        have p348 : 0 ≤ (x7_2 : Int) := of_decide_eq_true (by first | (with_reducible assumption) | assumption)
                        have q348 : x7_2 < (t329.length : Int) := of_decide_eq_true (by first | (with_reducible assumption) | assumption)
                        obtain ⟨ad348, A348_1, c348_1, A348_2, c348_2, A348_3, c348_3, e348, hx348_0, hx348_1, hx348_2, hx348_3, hl348_1, hi348_1, hl348_2, hi348_2, hl348_3, hi348_3⟩ := at_T31 (Kd.N_reads' HO_5.out).2.2 x7_2 p348 q348
                        obtain rfl : ad346 = ad348 := (by injection e348)
                        obtain ⟨ce348, hce348, hMe348, hcc348⟩ := Kd.N_get HO_5.out z31 x7_2 p348 (by first | exact q348 | exact of_decide_eq_true (by first | (with_reducible assumption) | assumption) | (have e_ := (Kd.N_reads' HO_5.out).1; omega))
                        obtain ⟨ua348_1, uc348_1, ua348_2, uc348_2, ua348_3, uc348_3, rfl, ul348_1, ge348_1, ul348_2, ge348_2, ul348_3, ge348_3⟩ := k31_openF hMe348
                        have hv348_1 := hcc348 1 _ rfl
                        rw [add_field _ _ 1 (by omega)] at hv348_1
                        replace hv348_1 := Option.some.inj (hv348_1.symm.trans hx348_1)
                        injection hv348_1 with hva_ hvn_ hvc_
                        rw [hva_] at ge348_1
                        rw [hvc_] at ul348_1
                        have HL348_1 := aM (show Kd.V k40 40 _ w.heap.size _ _ ((rd_T31 t329 x7_2).f1) from Kd.V_mk ul348_1 ge348_1)
                        clear hva_ hvn_ hvc_ ge348_1 ul348_1
                        have hv348_2 := hcc348 2 _ rfl
                        rw [add_field _ _ 2 (by omega)] at hv348_2
                        replace hv348_2 := Option.some.inj (hv348_2.symm.trans hx348_2)
                        injection hv348_2 with hva_ hvn_ hvc_
                        rw [hva_] at ge348_2
                        rw [hvc_] at ul348_2
                        have HL348_2 := aM (show Kd.V (Kd.int .i64) 3 _ w.heap.size _ _ ((rd_T31 t329 x7_2).f2) from Kd.V_mk ul348_2 ge348_2)
                        clear hva_ hvn_ hvc_ ge348_2 ul348_2
                        have hv348_3 := hcc348 3 _ rfl
                        rw [add_field _ _ 3 (by omega)] at hv348_3
                        replace hv348_3 := Option.some.inj (hv348_3.symm.trans hx348_3)
                        injection hv348_3 with hva_ hvn_ hvc_
                        rw [hva_] at ge348_3
                        rw [hvc_] at ul348_3
                        have HL348_3 := aM (show Kd.V k80 80 _ w.heap.size _ _ ((rd_T31 t329 x7_2).f3) from Kd.V_mk ul348_3 ge348_3)
                        clear hva_ hvn_ hvc_ ge348_3 ul348_3 hcc348 hce348
                        have HR348_1 := aM hi348_1
                        have HC348_1 := aM hl348_1
                        clear hi348_1 hl348_1
                        have HR348_2 := aM hi348_2
                        have HC348_2 := aM hl348_2
                        clear hi348_2 hl348_2
                        have HR348_3 := aM hi348_3
                        have HC348_3 := aM hl348_3
                        clear hi348_3 hl348_3
                        replace p348 := eq_true p348
                        replace q348 := eq_true q348
                        have ea_ := Option.some.inj (hx346_1.symm.trans hx348_1)
                        injection ea_ with ea_ en_ ec_
                        subst ea_
                        subst ec_
                        clear en_
                        have ea_ := Option.some.inj (hx346_2.symm.trans hx348_2)
                        injection ea_ with ea_ en_ ec_
                        subst ea_
                        subst ec_
                        clear en_
                        have ea_ := Option.some.inj (hx346_3.symm.trans hx348_3)
                        injection ea_ with ea_ en_ ec_
                        subst ea_
                        subst ec_
                        clear en_
                        have p349 : 0 ≤ (x8_3 : Int) := of_decide_eq_true (by first | (with_reducible assumption) | assumption)
                        have q349 : x8_3 < (((rd_T31 t329 x7_2).f1).length : Int) := of_decide_eq_true (by first | (with_reducible assumption) | assumption)
                        obtain ⟨ad349, e349, hx349_0, hx349_1⟩ := at_T40 (by repeat (first | (with_reducible exact HR348_1.out) | (with_reducible refine cA ?_ _) | (with_reducible refine cN ?_ _) | (with_reducible refine cD ?_) | exact HR348_1.out)) x8_3 p349 q349
                        cases e349
                        replace p349 := eq_true p349
                        replace q349 := eq_true q349
                        have p350 : 0 ≤ (x7_2 : Int) := of_decide_eq_true (by first | (with_reducible assumption) | assumption)
                        have q350 : x7_2 < (t329.length : Int) := of_decide_eq_true (by first | (with_reducible assumption) | assumption)
                        obtain ⟨ad350, A350_1, c350_1, A350_2, c350_2, A350_3, c350_3, e350, hx350_0, hx350_1, hx350_2, hx350_3, hl350_1, hi350_1, hl350_2, hi350_2, hl350_3, hi350_3⟩ := at_T31 (Kd.N_reads' HO_5.out).2.2 x7_2 p350 q350
                        obtain rfl : ad346 = ad350 := (by injection e350)
                        obtain ⟨ce350, hce350, hMe350, hcc350⟩ := Kd.N_get HO_5.out z31 x7_2 p350 (by first | exact q350 | exact of_decide_eq_true (by first | (with_reducible assumption) | assumption) | (have e_ := (Kd.N_reads' HO_5.out).1; omega))
                        obtain ⟨ua350_1, uc350_1, ua350_2, uc350_2, ua350_3, uc350_3, rfl, ul350_1, ge350_1, ul350_2, ge350_2, ul350_3, ge350_3⟩ := k31_openF hMe350
                        have hv350_1 := hcc350 1 _ rfl
                        rw [add_field _ _ 1 (by omega)] at hv350_1
                        replace hv350_1 := Option.some.inj (hv350_1.symm.trans hx350_1)
                        injection hv350_1 with hva_ hvn_ hvc_
                        rw [hva_] at ge350_1
                        rw [hvc_] at ul350_1
                        have HL350_1 := aM (show Kd.V k40 40 _ w.heap.size _ _ ((rd_T31 t329 x7_2).f1) from Kd.V_mk ul350_1 ge350_1)
                        clear hva_ hvn_ hvc_ ge350_1 ul350_1
                        have hv350_2 := hcc350 2 _ rfl
                        rw [add_field _ _ 2 (by omega)] at hv350_2
                        replace hv350_2 := Option.some.inj (hv350_2.symm.trans hx350_2)
                        injection hv350_2 with hva_ hvn_ hvc_
                        rw [hva_] at ge350_2
                        rw [hvc_] at ul350_2
                        have HL350_2 := aM (show Kd.V (Kd.int .i64) 3 _ w.heap.size _ _ ((rd_T31 t329 x7_2).f2) from Kd.V_mk ul350_2 ge350_2)
                        clear hva_ hvn_ hvc_ ge350_2 ul350_2
                        have hv350_3 := hcc350 3 _ rfl
                        rw [add_field _ _ 3 (by omega)] at hv350_3
                        replace hv350_3 := Option.some.inj (hv350_3.symm.trans hx350_3)
                        injection hv350_3 with hva_ hvn_ hvc_
                        rw [hva_] at ge350_3
                        rw [hvc_] at ul350_3
                        have HL350_3 := aM (show Kd.V k80 80 _ w.heap.size _ _ ((rd_T31 t329 x7_2).f3) from Kd.V_mk ul350_3 ge350_3)
                        clear hva_ hvn_ hvc_ ge350_3 ul350_3 hcc350 hce350
                        have HR350_1 := aM hi350_1
                        have HC350_1 := aM hl350_1
                        clear hi350_1 hl350_1
                        have HR350_2 := aM hi350_2
                        have HC350_2 := aM hl350_2
                        clear hi350_2 hl350_2
                        have HR350_3 := aM hi350_3
                        have HC350_3 := aM hl350_3
                        clear hi350_3 hl350_3
                        replace p350 := eq_true p350
                        replace q350 := eq_true q350
                        have ea_ := Option.some.inj (hx346_1.symm.trans hx350_1)
                        injection ea_ with ea_ en_ ec_
                        subst ea_
                        subst ec_
                        clear en_
                        have ea_ := Option.some.inj (hx346_2.symm.trans hx350_2)
                        injection ea_ with ea_ en_ ec_
                        subst ea_
                        subst ec_
                        clear en_
                        have ea_ := Option.some.inj (hx346_3.symm.trans hx350_3)
                        injection ea_ with ea_ en_ ec_
                        subst ea_
                        subst ec_
                        clear en_
                        have p351 : 0 ≤ (x8_3 : Int) := of_decide_eq_true (by first | (with_reducible assumption) | assumption)
                        have q351 : x8_3 < (((rd_T31 t329 x7_2).f2).length : Int) := of_decide_eq_true (by first | (with_reducible assumption) | assumption)
                        obtain ⟨ad351, e351, hx351_0⟩ := Kd.at_int (by repeat (first | (with_reducible exact HR350_2.out) | (with_reducible refine cA ?_ _) | (with_reducible refine cN ?_ _) | (with_reducible refine cD ?_) | exact HR350_2.out)) x8_3 p351 q351
                        cases e351
                        replace p351 := eq_true p351
                        replace q351 := eq_true q351
                        have p352 : 0 ≤ (x7_2 : Int) := of_decide_eq_true (by first | (with_reducible assumption) | assumption)
                        have q352 : x7_2 < (l0.length : Int) := of_decide_eq_true (by first | (with_reducible assumption) | assumption)
                        obtain ⟨ad352, A352_1, c352_1, A352_2, c352_2, A352_3, c352_3, e352, hx352_0, hx352_1, hx352_2, hx352_3, hl352_1, hi352_1, hl352_2, hi352_2, hl352_3, hi352_3⟩ := at_T31 HR0.out x7_2 p352 q352
                        have hw352_3 := hx352_3
                        have hw352_2 := hx352_2
                        have hw352_1 := hx352_1
                        have hw352_0 := hx352_0
                        obtain rfl : ad343 = ad352 := (by injection e352)
                        replace hx352_0 := (HB.out.cell (World.block_lt_of_cell? w _ hx352_0)).trans hx352_0
                        replace hx352_1 := (HB.out.cell (World.block_lt_of_cell? w _ hx352_1)).trans hx352_1
                        replace hx352_2 := (HB.out.cell (World.block_lt_of_cell? w _ hx352_2)).trans hx352_2
                        replace hx352_3 := (HB.out.cell (World.block_lt_of_cell? w _ hx352_3)).trans hx352_3
                        have HR352_1 := aM hi352_1
                        have HC352_1 := aM hl352_1
                        clear hi352_1 hl352_1
                        have HR352_2 := aM hi352_2
                        have HC352_2 := aM hl352_2
                        clear hi352_2 hl352_2
                        have HR352_3 := aM hi352_3
                        have HC352_3 := aM hl352_3
                        clear hi352_3 hl352_3
                        replace p352 := eq_true p352
                        replace q352 := eq_true q352
                        have p353 : 0 ≤ (x9_3 : Int) := of_decide_eq_true (by first | (with_reducible assumption) | assumption)
                        have q353 : x9_3 < (((rd_T31 l0 x7_2).f2).length : Int) := of_decide_eq_true (by first | (with_reducible assumption) | assumption)
                        obtain ⟨ad353, e353, hx353_0⟩ := Kd.at_int HR352_2.out x9_3 p353 q353
                        have hw353_0 := hx353_0
                        cases e353
                        replace hx353_0 := (HB.out.cell (World.block_lt_of_cell? w _ hx353_0)).trans hx353_0
                        replace p353 := eq_true p353
                        replace q353 := eq_true q353
                        refine start_ (n := 50) (S := fun w' => w'.cell? ⟨gb345, 0, none⟩ = some (.int .i64 ((rd_T40 ((rd_T31 l0 x7_2).f1) x9_3).f0)) ∧ w'.cell? ⟨gb345, 1, none⟩ = some (.int .i64 ((rd_T40 ((rd_T31 l0 x7_2).f1) x9_3).f1)) ∧ w'.cell? (ad346.add ((x7_2).toNat * 4)) = some (.int .i64 ((rd_T31 t329 x7_2).f0)) ∧ w'.cell? ⟨(ad346.add ((x7_2).toNat * 4)).block, (ad346.add ((x7_2).toNat * 4)).off + 1, none⟩ = some (.slice (some ad349) ((rd_T31 t329 x7_2).f1).length c346_1) ∧ w'.cell? ⟨(ad346.add ((x7_2).toNat * 4)).block, (ad346.add ((x7_2).toNat * 4)).off + 2, none⟩ = some (.slice (some ad351) ((rd_T31 t329 x7_2).f2).length c346_2) ∧ w'.cell? ⟨(ad346.add ((x7_2).toNat * 4)).block, (ad346.add ((x7_2).toNat * 4)).off + 3, none⟩ = some (.slice A346_3 ((rd_T31 t329 x7_2).f3).length c346_3) ∧ w'.cell? (ad346.add ((x7_2).toNat * 4)) = some (.int .i64 ((rd_T31 t329 x7_2).f0)) ∧ w'.cell? ⟨(ad346.add ((x7_2).toNat * 4)).block, (ad346.add ((x7_2).toNat * 4)).off + 1, none⟩ = some (.slice (some ad349) ((rd_T31 t329 x7_2).f1).length c346_1) ∧ w'.cell? ⟨(ad346.add ((x7_2).toNat * 4)).block, (ad346.add ((x7_2).toNat * 4)).off + 2, none⟩ = some (.slice (some ad351) ((rd_T31 t329 x7_2).f2).length c346_2) ∧ w'.cell? ⟨(ad346.add ((x7_2).toNat * 4)).block, (ad346.add ((x7_2).toNat * 4)).off + 3, none⟩ = some (.slice A346_3 ((rd_T31 t329 x7_2).f3).length c346_3) ∧ w'.cell? (ad346.add ((x7_2).toNat * 4)) = some (.int .i64 ((rd_T31 t329 x7_2).f0)) ∧ w'.cell? ⟨(ad346.add ((x7_2).toNat * 4)).block, (ad346.add ((x7_2).toNat * 4)).off + 1, none⟩ = some (.slice (some ad349) ((rd_T31 t329 x7_2).f1).length c346_1) ∧ w'.cell? ⟨(ad346.add ((x7_2).toNat * 4)).block, (ad346.add ((x7_2).toNat * 4)).off + 2, none⟩ = some (.slice (some ad351) ((rd_T31 t329 x7_2).f2).length c346_2) ∧ w'.cell? ⟨(ad346.add ((x7_2).toNat * 4)).block, (ad346.add ((x7_2).toNat * 4)).off + 3, none⟩ = some (.slice A346_3 ((rd_T31 t329 x7_2).f3).length c346_3) ∧ w'.cell? (ad349.add ((x8_3).toNat * 2)) = some (.int .i64 ((rd_T40 ((rd_T31 t329 x7_2).f1) x8_3).f0)) ∧ w'.cell? ⟨(ad349.add ((x8_3).toNat * 2)).block, (ad349.add ((x8_3).toNat * 2)).off + 1, none⟩ = some (.int .i64 ((rd_T40 ((rd_T31 t329 x7_2).f1) x8_3).f1)) ∧ w'.cell? (ad346.add ((x7_2).toNat * 4)) = some (.int .i64 ((rd_T31 t329 x7_2).f0)) ∧ w'.cell? ⟨(ad346.add ((x7_2).toNat * 4)).block, (ad346.add ((x7_2).toNat * 4)).off + 1, none⟩ = some (.slice (some ad349) ((rd_T31 t329 x7_2).f1).length c346_1) ∧ w'.cell? ⟨(ad346.add ((x7_2).toNat * 4)).block, (ad346.add ((x7_2).toNat * 4)).off + 2, none⟩ = some (.slice (some ad351) ((rd_T31 t329 x7_2).f2).length c346_2) ∧ w'.cell? ⟨(ad346.add ((x7_2).toNat * 4)).block, (ad346.add ((x7_2).toNat * 4)).off + 3, none⟩ = some (.slice A346_3 ((rd_T31 t329 x7_2).f3).length c346_3) ∧ w'.cell? (ad351.add (x8_3).toNat) = some (.int .i64 (rd ((rd_T31 t329 x7_2).f2) x8_3)) ∧ w'.cell? (ad343.add ((x7_2).toNat * 4)) = some (.int .i64 ((rd_T31 l0 x7_2).f0)) ∧ w'.cell? ⟨(ad343.add ((x7_2).toNat * 4)).block, (ad343.add ((x7_2).toNat * 4)).off + 1, none⟩ = some (.slice A352_1 ((rd_T31 l0 x7_2).f1).length c352_1) ∧ w'.cell? ⟨(ad343.add ((x7_2).toNat * 4)).block, (ad343.add ((x7_2).toNat * 4)).off + 2, none⟩ = some (.slice (some ad353) ((rd_T31 l0 x7_2).f2).length c352_2) ∧ w'.cell? ⟨(ad343.add ((x7_2).toNat * 4)).block, (ad343.add ((x7_2).toNat * 4)).off + 3, none⟩ = some (.slice A352_3 ((rd_T31 l0 x7_2).f3).length c352_3) ∧ w'.cell? (ad353.add (x9_3).toNat) = some (.int .i64 (rd ((rd_T31 l0 x7_2).f2) x9_3))) (ds := []) #[false, false, false, false, false, false, false, false, false, false, false, false, false, false, false, false, false, false, false, false, false, false, false, false, false, false, false, false, false, false, false, false, false, false, false, false, false, false, false, false, false, false, false, false, false, false, false, false, false, false] (by kernel_rfl) rfl rfl ⟨(kC BK345.out 0).trans rfl, (kC BK345.out 1).trans rfl, hx346_0, hx346_1, hx346_2, hx346_3, hx347_0, hx347_1, hx347_2, hx347_3, hx348_0, hx348_1, hx348_2, hx348_3, hx349_0, hx349_1, hx350_0, hx350_1, hx350_2, hx350_3, hx351_0, ((HB.out.cell (World.block_lt_of_cell? w _ hw352_0)).trans hw352_0), ((HB.out.cell (World.block_lt_of_cell? w _ hw352_1)).trans hw352_1), ((HB.out.cell (World.block_lt_of_cell? w _ hw352_2)).trans hw352_2), ((HB.out.cell (World.block_lt_of_cell? w _ hw352_3)).trans hw352_3), ((HB.out.cell (World.block_lt_of_cell? w _ hw353_0)).trans hw353_0)⟩ (fun hHeld => ?_); refine with_tabW mapmakerlaw26_GeneralizeKeeps.tab14 mapmakerlaw26_GeneralizeKeeps.bits14 (fun HT_ HW_ => ?_)
                        generalize w40.drew = w41 at HO_5 HO_6 BK345 HB HL346_1 HL346_2 HL346_3 HL347_1 HL347_2 HL347_3 HL348_1 HL348_2 HL348_3 HL350_1 HL350_2 HL350_3 HR346_1 HR346_2 HR346_3 HR347_1 HR347_2 HR347_3 HR348_1 HR348_2 HR348_3 HR350_1 HR350_2 HR350_3 HR352_1 HR352_2 HR352_3 hx346_0 hx346_1 hx346_2 hx346_3 hx347_0 hx347_1 hx347_2 hx347_3 hx348_0 hx348_1 hx348_2 hx348_3 hx349_0 hx349_1 hx350_0 hx350_1 hx350_2 hx350_3 hx351_0 hx352_0 hx352_1 hx352_2 hx352_3 hx353_0 hHeld ⊢
                        refine pure_ (i := 0) (N := some 65) (v := ?_) (a' := ?_) (ba 50 1) rfl rfl (any_of HT_.out (by kernel_rfl)) (fun _ _ _ h => h) (Or.inl ⟨by rfl, ?_⟩) ?_ ?_
                        rotate_left
                        ·intro w'
                         go_simp
                         with_reducible rfl
                        rotate_left
                        ·simp only [Act.put, sA, sB, sC, i64_w, i32_w]
                         rfl
                        refine pure_ (i := 1) (N := some 66) (v := ?_) (a' := ?_) (ba 50 3) rfl rfl (any_of HT_.out (by kernel_rfl)) (fun _ _ _ h => h) (Or.inl ⟨by rfl, ?_⟩) ?_ ?_
                        rotate_left
                        ·intro w'
                         go_simp
                         with_reducible rfl
                        rotate_left
                        ·simp only [Act.put, sA, sB, sC, i64_w, i32_w]
                         rfl
                        refine pure_ (i := 2) (N := some 67) (v := ?_) (a' := ?_) (ba 50 7) rfl rfl (any_of HT_.out (by kernel_rfl)) (fun _ _ _ h => h) (Or.inl ⟨by rfl, ?_⟩) ?_ ?_
                        rotate_left
                        ·intro w'
                         go_simp
                         with_reducible rfl
                        rotate_left
                        ·simp only [Act.put, sA, sB, sC, i64_w, i32_w]
                         rfl
                        refine pure_ (i := 3) (N := some 68) (v := ?_) (a' := ?_) (ba 50 15) rfl rfl (any_of HT_.out (by kernel_rfl)) (fun _ _ _ h => h) (Or.inl ⟨by rfl, ?_⟩) ?_ ?_
                        rotate_left
                        ·intro w'
                         go_simp
                         with_reducible rfl
                        rotate_left
                        ·simp only [Act.put, sA, sB, sC, i64_w, i32_w]
                         rfl
                        refine pure_ (i := 4) (N := some 69) (v := ?_) (a' := ?_) (ba 50 31) rfl rfl (any_of HT_.out (by kernel_rfl)) (fun _ _ _ h => h) (Or.inl ⟨by rfl, ?_⟩) ?_ ?_
                        rotate_left
                        ·intro w'
                         go_simp
                         with_reducible rfl
                        rotate_left
                        ·simp only [Act.put, sA, sB, sC, i64_w, i32_w]
                         rfl
                        refine take_ (i := 5) (N := some 70) (v := ?_) (a' := ?_) (ba 50 63) rfl rfl (take_ofW HT_.out HW_.out (by kernel_rfl)) (fun _ _ _ h => h) (Or.inl ⟨by rfl, ?_⟩) hHeld ?_ ?_
                        rotate_left
                        ·rintro w' ⟨s0, s1, s2, s3, s4, s5, s6, s7, s8, s9, s10, s11, s12, s13, s14, s15, s16, s17, s18, s19, s20, s21, s22, s23, s24, s25⟩
                         go_simp
                         with_reducible rfl
                        rotate_left
                        ·simp only [Act.put, sA, sB, sC, i64_w, i32_w]
                         rfl
                        refine pure_ (i := 6) (N := some 71) (v := ?_) (a' := ?_) (ba 50 127) rfl rfl (any_of HT_.out (by kernel_rfl)) (fun _ _ _ h => h) (Or.inl ⟨by rfl, ?_⟩) ?_ ?_
                        rotate_left
                        ·intro w'
                         go_simp
                         with_reducible rfl
                        rotate_left
                        ·simp only [Act.put, sA, sB, sC, i64_w, i32_w]
                         rfl
                        refine pure_ (i := 7) (N := some 72) (v := ?_) (a' := ?_) (ba 50 255) rfl rfl (any_of HT_.out (by kernel_rfl)) (fun _ _ _ h => h) (Or.inl ⟨by rfl, ?_⟩) ?_ ?_
                        rotate_left
                        ·intro w'
                         go_simp
                         with_reducible rfl
                        rotate_left
                        ·simp only [Act.put, sA, sB, sC, i64_w, i32_w]
                         rfl
                        refine pure_ (i := 8) (N := some 73) (v := ?_) (a' := ?_) (ba 50 511) rfl rfl (any_of HT_.out (by kernel_rfl)) (fun _ _ _ h => h) (Or.inl ⟨by rfl, ?_⟩) ?_ ?_
                        rotate_left
                        ·intro w'
                         go_simp
                         with_reducible rfl
                        rotate_left
                        ·simp only [Act.put, sA, sB, sC, i64_w, i32_w]
                         rfl
                        refine pure_ (i := 9) (N := some 74) (v := ?_) (a' := ?_) (ba 50 1023) rfl rfl (any_of HT_.out (by kernel_rfl)) (fun _ _ _ h => h) (Or.inl ⟨by rfl, ?_⟩) ?_ ?_
                        rotate_left
                        ·intro w'
                         go_simp
                         with_reducible rfl
                        rotate_left
                        ·simp only [Act.put, sA, sB, sC, i64_w, i32_w]
                         rfl
                        refine pure_ (i := 10) (N := some 75) (v := ?_) (a' := ?_) (ba 50 2047) rfl rfl (any_of HT_.out (by kernel_rfl)) (fun _ _ _ h => h) (Or.inl ⟨by rfl, ?_⟩) ?_ ?_
                        rotate_left
                        ·intro w'
                         go_simp
                         with_reducible rfl
                        rotate_left
                        ·simp only [Act.put, sA, sB, sC, i64_w, i32_w]
                         rfl
                        refine pure_ (i := 11) (N := some 76) (v := ?_) (a' := ?_) (ba 50 4095) rfl rfl (any_of HT_.out (by kernel_rfl)) (fun _ _ _ h => h) (Or.inl ⟨by rfl, ?_⟩) ?_ ?_
                        rotate_left
                        ·intro w'
                         go_simp
                         with_reducible rfl
                        rotate_left
                        ·simp only [Act.put, sA, sB, sC, i64_w, i32_w]
                         rfl
                        refine pure_ (i := 12) (N := some 77) (v := ?_) (a' := ?_) (ba 50 8191) rfl rfl (any_of HT_.out (by kernel_rfl)) (fun _ _ _ h => h) (Or.inl ⟨by rfl, ?_⟩) ?_ ?_
                        rotate_left
                        ·intro w'
                         go_simp
                         with_reducible rfl
                        rotate_left
                        ·simp only [Act.put, sA, sB, sC, i64_w, i32_w]
                         rfl
                        refine pure_ (i := 13) (N := some 78) (v := ?_) (a' := ?_) (ba 50 16383) rfl rfl (any_of HT_.out (by kernel_rfl)) (fun _ _ _ h => h) (Or.inl ⟨by rfl, ?_⟩) ?_ ?_
                        rotate_left
                        ·intro w'
                         go_simp
                         with_reducible rfl
                        rotate_left
                        ·simp only [Act.put, sA, sB, sC, i64_w, i32_w]
                         rfl
                        refine take_ (i := 14) (N := some 79) (v := ?_) (a' := ?_) (ba 50 32767) rfl rfl (take_ofW HT_.out HW_.out (by kernel_rfl)) (fun _ _ _ h => h) (Or.inl ⟨by rfl, ?_⟩) hHeld ?_ ?_
                        rotate_left
                        ·rintro w' ⟨s0, s1, s2, s3, s4, s5, s6, s7, s8, s9, s10, s11, s12, s13, s14, s15, s16, s17, s18, s19, s20, s21, s22, s23, s24, s25⟩
                         go_simp
                         with_reducible rfl
                        rotate_left
                        ·simp only [Act.put, sA, sB, sC, i64_w, i32_w]
                         rfl
                        refine pure_ (i := 15) (N := some 80) (v := ?_) (a' := ?_) (ba 50 65535) rfl rfl (any_of HT_.out (by kernel_rfl)) (fun _ _ _ h => h) (Or.inl ⟨by rfl, ?_⟩) ?_ ?_
                        rotate_left
                        ·intro w'
                         go_simp
                         with_reducible rfl
                        rotate_left
                        ·simp only [Act.put, sA, sB, sC, i64_w, i32_w]
                         rfl
                        refine pure_ (i := 16) (N := some 81) (v := ?_) (a' := ?_) (ba 50 131071) rfl rfl (any_of HT_.out (by kernel_rfl)) (fun _ _ _ h => h) (Or.inl ⟨by rfl, ?_⟩) ?_ ?_
                        rotate_left
                        ·intro w'
                         go_simp
                         with_reducible rfl
                        rotate_left
                        ·simp only [Act.put, sA, sB, sC, i64_w, i32_w]
                         rfl
                        refine pure_ (i := 17) (N := some 82) (v := ?_) (a' := ?_) (ba 50 262143) rfl rfl (any_of HT_.out (by kernel_rfl)) (fun _ _ _ h => h) (Or.inl ⟨by rfl, ?_⟩) ?_ ?_
                        rotate_left
                        ·intro w'
                         go_simp
                         with_reducible rfl
                        rotate_left
                        ·simp only [Act.put, sA, sB, sC, i64_w, i32_w]
                         rfl
                        refine pure_ (i := 18) (N := some 83) (v := ?_) (a' := ?_) (ba 50 524287) rfl rfl (any_of HT_.out (by kernel_rfl)) (fun _ _ _ h => h) (Or.inl ⟨by rfl, ?_⟩) ?_ ?_
                        rotate_left
                        ·intro w'
                         go_simp
                         with_reducible rfl
                        rotate_left
                        ·simp only [Act.put, sA, sB, sC, i64_w, i32_w]
                         rfl
                        refine pure_ (i := 19) (N := some 84) (v := ?_) (a' := ?_) (ba 50 1048575) rfl rfl (any_of HT_.out (by kernel_rfl)) (fun _ _ _ h => h) (Or.inl ⟨by rfl, ?_⟩) ?_ ?_
                        rotate_left
                        ·intro w'
                         go_simp
                         with_reducible rfl
                        rotate_left
                        ·simp only [Act.put, sA, sB, sC, i64_w, i32_w]
                         rfl
                        refine pure_ (i := 20) (N := some 85) (v := ?_) (a' := ?_) (ba 50 2097151) rfl rfl (any_of HT_.out (by kernel_rfl)) (fun _ _ _ h => h) (Or.inl ⟨by rfl, ?_⟩) ?_ ?_
                        rotate_left
                        ·intro w'
                         go_simp
                         with_reducible rfl
                        rotate_left
                        ·simp only [Act.put, sA, sB, sC, i64_w, i32_w]
                         rfl
                        refine pure_ (i := 21) (N := some 86) (v := ?_) (a' := ?_) (ba 50 4194303) rfl rfl (any_of HT_.out (by kernel_rfl)) (fun _ _ _ h => h) (Or.inl ⟨by rfl, ?_⟩) ?_ ?_
                        rotate_left
                        ·intro w'
                         go_simp
                         with_reducible rfl
                        rotate_left
                        ·simp only [Act.put, sA, sB, sC, i64_w, i32_w]
                         rfl
                        refine pure_ (i := 22) (N := some 87) (v := ?_) (a' := ?_) (ba 50 8388607) rfl rfl (any_of HT_.out (by kernel_rfl)) (fun _ _ _ h => h) (Or.inl ⟨by rfl, ?_⟩) ?_ ?_
                        rotate_left
                        ·intro w'
                         go_simp
                         with_reducible rfl
                        rotate_left
                        ·simp only [Act.put, sA, sB, sC, i64_w, i32_w]
                         rfl
                        refine pure_ (i := 24) (N := some 89) (v := ?_) (a' := ?_) (ba 50 25165823) rfl rfl (any_of HT_.out (by kernel_rfl)) (fun _ _ _ h => h) (Or.inl ⟨by rfl, ?_⟩) ?_ ?_
                        rotate_left
                        ·intro w'
                         go_simp
                         with_reducible rfl
                        rotate_left
                        ·simp only [Act.put, sA, sB, sC, i64_w, i32_w]
                         rfl
                        refine take_ (i := 23) (N := some 88) (v := ?_) (a' := ?_) (ba 50 33554431) rfl rfl (take_ofW HT_.out HW_.out (by kernel_rfl)) (fun _ _ _ h => h) (Or.inl ⟨by rfl, ?_⟩) hHeld ?_ ?_
                        rotate_left
                        ·rintro w' ⟨s0, s1, s2, s3, s4, s5, s6, s7, s8, s9, s10, s11, s12, s13, s14, s15, s16, s17, s18, s19, s20, s21, s22, s23, s24, s25⟩
                         go_simp
                         with_reducible rfl
                        rotate_left
                        ·simp only [Act.put, sA, sB, sC, i64_w, i32_w]
                         rfl
                        refine pure_ (i := 25) (N := some 90) (v := ?_) (a' := ?_) (ba 50 67108863) rfl rfl (any_of HT_.out (by kernel_rfl)) (fun _ _ _ h => h) (Or.inl ⟨by rfl, ?_⟩) ?_ ?_
                        rotate_left
                        ·intro w'
                         go_simp
                         with_reducible rfl
                        rotate_left
                        ·simp only [Act.put, sA, sB, sC, i64_w, i32_w]
                         rfl
                        refine take_ (i := 26) (N := some 91) (v := ?_) (a' := ?_) (ba 50 134217727) rfl rfl (take_ofW HT_.out HW_.out (by kernel_rfl)) (fun _ _ _ h => h) (Or.inl ⟨by rfl, ?_⟩) hHeld ?_ ?_
                        rotate_left
                        ·rintro w' ⟨s0, s1, s2, s3, s4, s5, s6, s7, s8, s9, s10, s11, s12, s13, s14, s15, s16, s17, s18, s19, s20, s21, s22, s23, s24, s25⟩
                         go_simp
                         with_reducible rfl
                        rotate_left
                        ·simp only [Act.put, sA, sB, sC, i64_w, i32_w]
                         rfl
                        refine take_ (i := 27) (N := some 92) (v := ?_) (a' := ?_) (ba 50 268435455) rfl rfl (take_ofW HT_.out HW_.out (by kernel_rfl)) (fun _ _ _ h => h) (Or.inl ⟨by rfl, ?_⟩) hHeld ?_ ?_
                        rotate_left
                        ·rintro w' ⟨s0, s1, s2, s3, s4, s5, s6, s7, s8, s9, s10, s11, s12, s13, s14, s15, s16, s17, s18, s19, s20, s21, s22, s23, s24, s25⟩
                         go_simp
                         with_reducible rfl
                        rotate_left
                        ·simp only [Act.put, sA, sB, sC, i64_w, i32_w]
                         rfl
                        refine pure_ (i := 28) (N := some 93) (v := ?_) (a' := ?_) (ba 50 536870911) rfl rfl (any_of HT_.out (by kernel_rfl)) (fun _ _ _ h => h) (Or.inl ⟨by rfl, ?_⟩) ?_ ?_
                        rotate_left
                        ·intro w'
                         go_simp
                         with_reducible rfl
                        rotate_left
                        ·simp only [Act.put, sA, sB, sC, i64_w, i32_w]
                         rfl
                        refine pure_ (i := 29) (N := some 94) (v := ?_) (a' := ?_) (ba 50 1073741823) rfl rfl (any_of HT_.out (by kernel_rfl)) (fun _ _ _ h => h) (Or.inl ⟨by rfl, ?_⟩) ?_ ?_
                        rotate_left
                        ·intro w'
                         go_simp
                         with_reducible rfl
                        rotate_left
                        ·simp only [Act.put, sA, sB, sC, i64_w, i32_w]
                         rfl
                        refine pure_ (i := 30) (N := some 95) (v := ?_) (a' := ?_) (ba 50 2147483647) rfl rfl (any_of HT_.out (by kernel_rfl)) (fun _ _ _ h => h) (Or.inl ⟨by rfl, ?_⟩) ?_ ?_
                        rotate_left
                        ·intro w'
                         go_simp
                         with_reducible rfl
                        rotate_left
                        ·simp only [Act.put, sA, sB, sC, i64_w, i32_w]
                         rfl
                        refine pure_ (i := 31) (N := some 96) (v := ?_) (a' := ?_) (ba 50 4294967295) rfl rfl (any_of HT_.out (by kernel_rfl)) (fun _ _ _ h => h) (Or.inl ⟨by rfl, ?_⟩) ?_ ?_
                        rotate_left
                        ·intro w'
                         go_simp
                         with_reducible rfl
                        rotate_left
                        ·simp only [Act.put, sA, sB, sC, i64_w, i32_w]
                         rfl
                        refine pure_ (i := 32) (N := some 97) (v := ?_) (a' := ?_) (ba 50 8589934591) rfl rfl (any_of HT_.out (by kernel_rfl)) (fun _ _ _ h => h) (Or.inl ⟨by rfl, ?_⟩) ?_ ?_
                        rotate_left
                        ·intro w'
                         go_simp
                         with_reducible rfl
                        rotate_left
                        ·simp only [Act.put, sA, sB, sC, i64_w, i32_w]
                         rfl
                        refine pure_ (i := 33) (N := some 98) (v := ?_) (a' := ?_) (ba 50 17179869183) rfl rfl (any_of HT_.out (by kernel_rfl)) (fun _ _ _ h => h) (Or.inl ⟨by rfl, ?_⟩) ?_ ?_
                        rotate_left
                        ·intro w'
                         go_simp
                         with_reducible rfl
                        rotate_left
                        ·simp only [Act.put, sA, sB, sC, i64_w, i32_w]
                         rfl
                        refine pure_ (i := 34) (N := some 99) (v := ?_) (a' := ?_) (ba 50 34359738367) rfl rfl (any_of HT_.out (by kernel_rfl)) (fun _ _ _ h => h) (Or.inl ⟨by rfl, ?_⟩) ?_ ?_
                        rotate_left
                        ·intro w'
                         go_simp
                         with_reducible rfl
                        rotate_left
                        ·simp only [Act.put, sA, sB, sC, i64_w, i32_w]
                         rfl
                        refine pure_ (i := 36) (N := some 101) (v := ?_) (a' := ?_) (ba 50 103079215103) rfl rfl (any_of HT_.out (by kernel_rfl)) (fun _ _ _ h => h) (Or.inl ⟨by rfl, ?_⟩) ?_ ?_
                        rotate_left
                        ·intro w'
                         go_simp
                         with_reducible rfl
                        rotate_left
                        ·simp only [Act.put, sA, sB, sC, i64_w, i32_w]
                         rfl
                        refine pure_ (i := 39) (N := some 104) (v := ?_) (a' := ?_) (ba 50 652835028991) rfl rfl (any_of HT_.out (by kernel_rfl)) (fun _ _ _ h => h) (Or.inl ⟨by rfl, ?_⟩) ?_ ?_
                        rotate_left
                        ·intro w'
                         go_simp
                         with_reducible rfl
                        rotate_left
                        ·simp only [Act.put, sA, sB, sC, i64_w, i32_w]
                         rfl
                        refine pure_ (i := 40) (N := some 105) (v := ?_) (a' := ?_) (ba 50 1752346656767) rfl rfl (any_of HT_.out (by kernel_rfl)) (fun _ _ _ h => h) (Or.inl ⟨by rfl, ?_⟩) ?_ ?_
                        rotate_left
                        ·intro w'
                         go_simp
                         with_reducible rfl
                        rotate_left
                        ·simp only [Act.put, sA, sB, sC, i64_w, i32_w]
                         rfl
                        refine pure_ (i := 41) (N := some 106) (v := ?_) (a' := ?_) (ba 50 3951369912319) rfl rfl (any_of HT_.out (by kernel_rfl)) (fun _ _ _ h => h) (Or.inl ⟨by rfl, ?_⟩) ?_ ?_
                        rotate_left
                        ·intro w'
                         go_simp
                         with_reducible rfl
                        rotate_left
                        ·simp only [Act.put, sA, sB, sC, i64_w, i32_w]
                         rfl
                        refine pure_ (i := 42) (N := some 107) (v := ?_) (a' := ?_) (ba 50 8349416423423) rfl rfl (any_of HT_.out (by kernel_rfl)) (fun _ _ _ h => h) (Or.inl ⟨by rfl, ?_⟩) ?_ ?_
                        rotate_left
                        ·intro w'
                         go_simp
                         with_reducible rfl
                        rotate_left
                        ·simp only [Act.put, sA, sB, sC, i64_w, i32_w]
                         rfl
                        refine pure_ (i := 44) (N := some 109) (v := ?_) (a' := ?_) (ba 50 25941602467839) rfl rfl (any_of HT_.out (by kernel_rfl)) (fun _ _ _ h => h) (Or.inl ⟨by rfl, ?_⟩) ?_ ?_
                        rotate_left
                        ·intro w'
                         go_simp
                         with_reducible rfl
                        rotate_left
                        ·simp only [Act.put, sA, sB, sC, i64_w, i32_w]
                         rfl
                        refine take_ (i := 35) (N := some 100) (v := ?_) (a' := ?_) (ba 50 25975962206207) rfl rfl (take_ofW HT_.out HW_.out (by kernel_rfl)) (fun _ _ _ h => h) (Or.inl ⟨by rfl, ?_⟩) hHeld ?_ ?_
                        rotate_left
                        ·rintro w' ⟨s0, s1, s2, s3, s4, s5, s6, s7, s8, s9, s10, s11, s12, s13, s14, s15, s16, s17, s18, s19, s20, s21, s22, s23, s24, s25⟩
                         go_simp
                         with_reducible rfl
                        rotate_left
                        ·simp only [Act.put, sA, sB, sC, i64_w, i32_w]
                         rfl
                        refine pure_ (i := 37) (N := some 102) (v := ?_) (a' := ?_) (ba 50 26113401159679) rfl rfl (any_of HT_.out (by kernel_rfl)) (fun _ _ _ h => h) (Or.inl ⟨by rfl, ?_⟩) ?_ ?_
                        rotate_left
                        ·intro w'
                         go_simp
                         with_reducible rfl
                        rotate_left
                        ·simp only [Act.put, sA, sB, sC, i64_w, i32_w]
                         rfl
                        refine take_ (i := 38) (N := some 103) (v := ?_) (a' := ?_) (ba 50 26388279066623) rfl rfl (take_ofW HT_.out HW_.out (by kernel_rfl)) (fun _ _ _ h => h) (Or.inl ⟨by rfl, ?_⟩) hHeld ?_ ?_
                        rotate_left
                        ·rintro w' ⟨s0, s1, s2, s3, s4, s5, s6, s7, s8, s9, s10, s11, s12, s13, s14, s15, s16, s17, s18, s19, s20, s21, s22, s23, s24, s25⟩
                         go_simp
                         with_reducible rfl
                        rotate_left
                        ·simp only [Act.put, sA, sB, sC, i64_w, i32_w]
                         rfl
                        refine take_ (i := 43) (N := some 108) (v := ?_) (a' := ?_) (ba 50 35184372088831) rfl rfl (take_ofW HT_.out HW_.out (by kernel_rfl)) (fun _ _ _ h => h) (Or.inl ⟨by rfl, ?_⟩) hHeld ?_ ?_
                        rotate_left
                        ·rintro w' ⟨s0, s1, s2, s3, s4, s5, s6, s7, s8, s9, s10, s11, s12, s13, s14, s15, s16, s17, s18, s19, s20, s21, s22, s23, s24, s25⟩
                         go_simp
                         with_reducible rfl
                        rotate_left
                        ·simp only [Act.put, sA, sB, sC, i64_w, i32_w]
                         rfl
                        refine pure_ (i := 45) (N := some 110) (v := ?_) (a' := ?_) (ba 50 70368744177663) rfl rfl (any_of HT_.out (by kernel_rfl)) (fun _ _ _ h => h) (Or.inl ⟨by rfl, ?_⟩) ?_ ?_
                        rotate_left
                        ·intro w'
                         go_simp
                         with_reducible rfl
                        rotate_left
                        ·simp only [Act.put, sA, sB, sC, i64_w, i32_w]
                         rfl
                        refine take_ (i := 46) (N := some 111) (v := ?_) (a' := ?_) (ba 50 140737488355327) rfl rfl (take_ofW HT_.out HW_.out (by kernel_rfl)) (fun _ _ _ h => h) (Or.inl ⟨by rfl, ?_⟩) hHeld ?_ ?_
                        rotate_left
                        ·rintro w' ⟨s0, s1, s2, s3, s4, s5, s6, s7, s8, s9, s10, s11, s12, s13, s14, s15, s16, s17, s18, s19, s20, s21, s22, s23, s24, s25⟩
                         go_simp
                         with_reducible rfl
                        rotate_left
                        ·simp only [Act.put, sA, sB, sC, i64_w, i32_w]
                         rfl
                        refine pure_ (i := 47) (N := some 112) (v := ?_) (a' := ?_) (ba 50 281474976710655) rfl rfl (any_of HT_.out (by kernel_rfl)) (fun _ _ _ h => h) (Or.inl ⟨by rfl, ?_⟩) ?_ ?_
                        rotate_left
                        ·intro w'
                         go_simp
                         with_reducible rfl
                        rotate_left
                        ·simp only [Act.put, sA, sB, sC, i64_w, i32_w]
                         rfl
                        refine pure_ (i := 48) (N := some 113) (v := ?_) (a' := ?_) (ba 50 562949953421311) rfl rfl (any_of HT_.out (by kernel_rfl)) (fun _ _ _ h => h) (Or.inl ⟨by rfl, ?_⟩) ?_ ?_
                        rotate_left
                        ·intro w'
                         go_simp
                         with_reducible rfl
                        rotate_left
                        ·simp only [Act.put, sA, sB, sC, i64_w, i32_w]
                         rfl
                        refine pure_ (i := 49) (N := some 11) (v := ?_) (a' := ?_) (ba 50 1125899906842623) rfl rfl (any_of HT_.out (by kernel_rfl)) (fun _ _ _ h => h) (Or.inl ⟨by rfl, ?_⟩) ?_ ?_
                        rotate_left
                        ·intro w'
                         go_simp
                         with_reducible rfl
                        rotate_left
                        ·simp only [Act.put, sA, sB, sC, i64_w, i32_w]
                         rfl
                        refine done_ (done_of HT_.out (by kernel_rfl)) ?_
                        try go_wp2
                        go_meet
                        case rel => exact ⟨_, (((rd ((rd_T31 t329 x7_2).f2) x8_3) == (rd ((rd_T31 l0 x7_2).f2) x9_3))), (by first | rfl | (simp; done) | (simp [*]; done)), H', ⟨by have := HJ6.out; have := HK2.out; have := HK3.out; have := HJ19.out; first | omega | exact Nat.le_refl _⟩, ⟨by (with_reducible repeat (first | apply Kd.N_alloc | apply Kd.N_drewN | apply Kd.N_drew)); exact HO_5.out⟩, ⟨by (with_reducible repeat (first | apply rA | apply rN | apply rD)); exact HO_6.out⟩, ⟨by (with_reducible repeat (first | refine kN ?_ _ | refine kD ?_ | refine kA ?_ _)); exact BK345.out⟩, ⟨bl⟩⟩
                       ·rw [if_neg c39] at H
                        exact absurd H (by simp)
                      ·as_aux_lemma =>
                       rw [if_neg c38] at H
                       have c38b0 : (((rd_T40 ((rd_T31 t329 x7_2).f1) x8_3).f0) == ((rd_T40 ((rd_T31 l0 x7_2).f1) x9_3).f0) && (((rd_T40 ((rd_T31 t329 x7_2).f1) x8_3).f1) == ((rd_T40 ((rd_T31 l0 x7_2).f1) x9_3).f1))) = false := by simpa using c38
                       (try (have c38b1 : decide (((rd_T40 ((rd_T31 t329 x7_2).f1) x8_3).f0) = ((rd_T40 ((rd_T31 l0 x7_2).f1) x9_3).f0) && (((rd_T40 ((rd_T31 t329 x7_2).f1) x8_3).f1) == ((rd_T40 ((rd_T31 l0 x7_2).f1) x9_3).f1))) = false := by simpa using c38))
                       (try (have c38b2 : (((rd_T40 ((rd_T31 t329 x7_2).f1) x8_3).f0) == ((rd_T40 ((rd_T31 l0 x7_2).f1) x9_3).f0) && (((rd_T40 ((rd_T31 t329 x7_2).f1) x8_3).f1) == ((rd_T40 ((rd_T31 l0 x7_2).f1) x9_3).f1))) = false := by simpa using c38))
                       (try (have c38b3 : ¬ (((rd_T40 ((rd_T31 t329 x7_2).f1) x8_3).f0) = ((rd_T40 ((rd_T31 l0 x7_2).f1) x9_3).f0) && (((rd_T40 ((rd_T31 t329 x7_2).f1) x8_3).f1) == ((rd_T40 ((rd_T31 l0 x7_2).f1) x9_3).f1))) := by simpa using c38))
                       clear c38
                       have H' := aM H
                       clear H
                       try go_wp2
                       have n0_ : Aside0 (Kd.N k31 31 ((w32.setCell ⟨gb345, 0, none⟩ (.int .i64 ((rd_T40 ((rd_T31 l0 x7_2).f1) x9_3).f0))).setCell ⟨gb345, 1, none⟩ (.int .i64 ((rd_T40 ((rd_T31 l0 x7_2).f1) x9_3).f1))) w.heap.size (fun k_ => some k_ ≠ (v333 : Value).ownBlock ∧ k_ ≠ gb345) v330 t329) := ⟨by (with_reducible repeat (first | apply Kd.N_alloc | apply Kd.N_drewN | apply Kd.N_drew)); exact Kd.N_mono (Kd.N_far (p := ⟨gb345, 1, none⟩) (Kd.N_far (p := ⟨gb345, 0, none⟩) (Kd.N_mono HO_5.out (fun k_ hk => (⟨hk, hk.2⟩ : _ ∧ k_ ≠ gb345))) (fun _ hk => hk.2) (.int .i64 ((rd_T40 ((rd_T31 l0 x7_2).f1) x9_3).f0))) (fun _ hk => hk.2) (.int .i64 ((rd_T40 ((rd_T31 l0 x7_2).f1) x9_3).f1))) (fun _ hk => ⟨hk.1.1, hk.1.2⟩)⟩
                       have n1_ : Aside0 (Kd.R k40 40 ((w32.setCell ⟨gb345, 0, none⟩ (.int .i64 ((rd_T40 ((rd_T31 l0 x7_2).f1) x9_3).f0))).setCell ⟨gb345, 1, none⟩ (.int .i64 ((rd_T40 ((rd_T31 l0 x7_2).f1) x9_3).f1))) w.heap.size (fun k_ => k_ ≠ gb345) v333 t332) := ⟨by (with_reducible repeat (first | apply rA | apply rN | apply rD)); exact rM (Kd.R_far (p := ⟨gb345, 1, none⟩) (Kd.R_far (p := ⟨gb345, 0, none⟩) (rM HO_6.out (fun k_ hk => (⟨hk, hk.2⟩ : _ ∧ k_ ≠ gb345))) (fun _ hk => hk.2) (.int .i64 ((rd_T40 ((rd_T31 l0 x7_2).f1) x9_3).f0))) (fun _ hk => hk.2) (.int .i64 ((rd_T40 ((rd_T31 l0 x7_2).f1) x9_3).f1))) (fun _ hk => hk.1.2)⟩
                       have n2_ : Aside0 (((w32.setCell ⟨gb345, 0, none⟩ (.int .i64 ((rd_T40 ((rd_T31 l0 x7_2).f1) x9_3).f0))).setCell ⟨gb345, 1, none⟩ (.int .i64 ((rd_T40 ((rd_T31 l0 x7_2).f1) x9_3).f1))).heap[gb345]? = some (.cells #[.int .i64 ((rd_T40 ((rd_T31 l0 x7_2).f1) x9_3).f0), .int .i64 ((rd_T40 ((rd_T31 l0 x7_2).f1) x9_3).f1)] 40 (0, 0))) := ⟨by (with_reducible repeat (first | refine kN ?_ _ | refine kD ?_ | refine kA ?_ _)); refine kP (cs := #[.int .i64 ((rd_T40 ((rd_T31 l0 x7_2).f1) x9_3).f0), .int .i64 0]) ?_ 1 _ rfl; (with_reducible repeat (first | refine kN ?_ _ | refine kD ?_ | refine kA ?_ _)); refine kP (cs := #[.int .i64 0, .int .i64 0]) ?_ 0 _ rfl; (with_reducible repeat (first | refine kN ?_ _ | refine kD ?_ | refine kA ?_ _)); exact BK345.out⟩
                       have n3_ : Aside0 (Below w.heap.size w ((w32.setCell ⟨gb345, 0, none⟩ (.int .i64 ((rd_T40 ((rd_T31 l0 x7_2).f1) x9_3).f0))).setCell ⟨gb345, 1, none⟩ (.int .i64 ((rd_T40 ((rd_T31 l0 x7_2).f1) x9_3).f1)))) := ⟨bl⟩
                       (try clear HO_5)
                       (try clear HO_6)
                       (try clear BK345)
                       (try clear HB)
                       generalize ((w32.setCell ⟨gb345, 0, none⟩ (.int .i64 ((rd_T40 ((rd_T31 l0 x7_2).f1) x9_3).f0))).setCell ⟨gb345, 1, none⟩ (.int .i64 ((rd_T40 ((rd_T31 l0 x7_2).f1) x9_3).f1))) = w43 at n0_ n1_ n2_ n3_ ⊢
                       have HO_5 := n0_
                       have HO_6 := n1_
                       have BK345 := n2_
                       have HB := n3_
                       clear n0_ n1_ n2_ n3_
                       replace HO_5 := aM (Kd.N_drew HO_5.out)
                       replace HO_6 := aM (rD HO_6.out)
                       replace BK345 := aM (kD BK345.out)
                       replace HB := aM (bD HB.out)
                       obtain ⟨Ao45, co45, eo45⟩ := Kd.N_slice HO_5.out
                       (first | subst eo45 | (injection eo45 with f1_ f2_ f3_; have f4_ := f1_.symm; have f5_ := f3_.symm; clear f1_ f2_ f3_; subst f4_; subst f5_))
                       have p346 : 0 ≤ (x7_2 : Int) := of_decide_eq_true (by first | (with_reducible assumption) | assumption)
                       have q346 : x7_2 < (t329.length : Int) := of_decide_eq_true (by first | (with_reducible assumption) | assumption)
                       obtain ⟨ad346, A346_1, c346_1, A346_2, c346_2, A346_3, c346_3, e346, hx346_0, hx346_1, hx346_2, hx346_3, hl346_1, hi346_1, hl346_2, hi346_2, hl346_3, hi346_3⟩ := at_T31 (Kd.N_reads' HO_5.out).2.2 x7_2 p346 q346
                       cases e346
                       obtain ⟨ce346, hce346, hMe346, hcc346⟩ := Kd.N_get HO_5.out z31 x7_2 p346 (by first | exact q346 | exact of_decide_eq_true (by first | (with_reducible assumption) | assumption) | (have e_ := (Kd.N_reads' HO_5.out).1; omega))
                       obtain ⟨ua346_1, uc346_1, ua346_2, uc346_2, ua346_3, uc346_3, rfl, ul346_1, ge346_1, ul346_2, ge346_2, ul346_3, ge346_3⟩ := k31_openF hMe346
                       have hv346_1 := hcc346 1 _ rfl
                       rw [add_field _ _ 1 (by omega)] at hv346_1
                       replace hv346_1 := Option.some.inj (hv346_1.symm.trans hx346_1)
                       injection hv346_1 with hva_ hvn_ hvc_
                       rw [hva_] at ge346_1
                       rw [hvc_] at ul346_1
                       have HL346_1 := aM (show Kd.V k40 40 _ w.heap.size _ _ ((rd_T31 t329 x7_2).f1) from Kd.V_mk ul346_1 ge346_1)
                       clear hva_ hvn_ hvc_ ge346_1 ul346_1
                       have hv346_2 := hcc346 2 _ rfl
                       rw [add_field _ _ 2 (by omega)] at hv346_2
                       replace hv346_2 := Option.some.inj (hv346_2.symm.trans hx346_2)
                       injection hv346_2 with hva_ hvn_ hvc_
                       rw [hva_] at ge346_2
                       rw [hvc_] at ul346_2
                       have HL346_2 := aM (show Kd.V (Kd.int .i64) 3 _ w.heap.size _ _ ((rd_T31 t329 x7_2).f2) from Kd.V_mk ul346_2 ge346_2)
                       clear hva_ hvn_ hvc_ ge346_2 ul346_2
                       have hv346_3 := hcc346 3 _ rfl
                       rw [add_field _ _ 3 (by omega)] at hv346_3
                       replace hv346_3 := Option.some.inj (hv346_3.symm.trans hx346_3)
                       injection hv346_3 with hva_ hvn_ hvc_
                       rw [hva_] at ge346_3
                       rw [hvc_] at ul346_3
                       have HL346_3 := aM (show Kd.V k80 80 _ w.heap.size _ _ ((rd_T31 t329 x7_2).f3) from Kd.V_mk ul346_3 ge346_3)
                       clear hva_ hvn_ hvc_ ge346_3 ul346_3 hcc346 hce346
                       have HR346_1 := aM hi346_1
                       have HC346_1 := aM hl346_1
                       clear hi346_1 hl346_1
                       have HR346_2 := aM hi346_2
                       have HC346_2 := aM hl346_2
                       clear hi346_2 hl346_2
                       have HR346_3 := aM hi346_3
                       have HC346_3 := aM hl346_3
                       clear hi346_3 hl346_3
                       replace p346 := eq_true p346
                       replace q346 := eq_true q346
                       have p347 : 0 ≤ (x7_2 : Int) := of_decide_eq_true (by first | (with_reducible assumption) | assumption)
                       have q347 : x7_2 < (t329.length : Int) := of_decide_eq_true (by first | (with_reducible assumption) | assumption)
                       obtain ⟨ad347, A347_1, c347_1, A347_2, c347_2, A347_3, c347_3, e347, hx347_0, hx347_1, hx347_2, hx347_3, hl347_1, hi347_1, hl347_2, hi347_2, hl347_3, hi347_3⟩ := at_T31 (Kd.N_reads' HO_5.out).2.2 x7_2 p347 q347
                       obtain rfl : ad346 = ad347 := (by injection e347)
                       obtain ⟨ce347, hce347, hMe347, hcc347⟩ := Kd.N_get HO_5.out z31 x7_2 p347 (by first | exact q347 | exact of_decide_eq_true (by first | (with_reducible assumption) | assumption) | (have e_ := (Kd.N_reads' HO_5.out).1; omega))
                       obtain ⟨ua347_1, uc347_1, ua347_2, uc347_2, ua347_3, uc347_3, rfl, ul347_1, ge347_1, ul347_2, ge347_2, ul347_3, ge347_3⟩ := k31_openF hMe347
                       have hv347_1 := hcc347 1 _ rfl
                       rw [add_field _ _ 1 (by omega)] at hv347_1
                       replace hv347_1 := Option.some.inj (hv347_1.symm.trans hx347_1)
                       injection hv347_1 with hva_ hvn_ hvc_
                       rw [hva_] at ge347_1
                       rw [hvc_] at ul347_1
                       have HL347_1 := aM (show Kd.V k40 40 _ w.heap.size _ _ ((rd_T31 t329 x7_2).f1) from Kd.V_mk ul347_1 ge347_1)
                       clear hva_ hvn_ hvc_ ge347_1 ul347_1
                       have hv347_2 := hcc347 2 _ rfl
                       rw [add_field _ _ 2 (by omega)] at hv347_2
                       replace hv347_2 := Option.some.inj (hv347_2.symm.trans hx347_2)
                       injection hv347_2 with hva_ hvn_ hvc_
                       rw [hva_] at ge347_2
                       rw [hvc_] at ul347_2
                       have HL347_2 := aM (show Kd.V (Kd.int .i64) 3 _ w.heap.size _ _ ((rd_T31 t329 x7_2).f2) from Kd.V_mk ul347_2 ge347_2)
                       clear hva_ hvn_ hvc_ ge347_2 ul347_2
                       have hv347_3 := hcc347 3 _ rfl
                       rw [add_field _ _ 3 (by omega)] at hv347_3
                       replace hv347_3 := Option.some.inj (hv347_3.symm.trans hx347_3)
                       injection hv347_3 with hva_ hvn_ hvc_
                       rw [hva_] at ge347_3
                       rw [hvc_] at ul347_3
                       have HL347_3 := aM (show Kd.V k80 80 _ w.heap.size _ _ ((rd_T31 t329 x7_2).f3) from Kd.V_mk ul347_3 ge347_3)
                       clear hva_ hvn_ hvc_ ge347_3 ul347_3 hcc347 hce347
                       have HR347_1 := aM hi347_1
                       have HC347_1 := aM hl347_1
                       clear hi347_1 hl347_1
                       have HR347_2 := aM hi347_2
                       have HC347_2 := aM hl347_2
                       clear hi347_2 hl347_2
                       have HR347_3 := aM hi347_3
                       have HC347_3 := aM hl347_3
                       clear hi347_3 hl347_3
                       replace p347 := eq_true p347
                       replace q347 := eq_true q347
                       have ea_ := Option.some.inj (hx346_1.symm.trans hx347_1)
                       injection ea_ with ea_ en_ ec_
                       subst ea_
                       subst ec_
                       clear en_
                       have ea_ := Option.some.inj (hx346_2.symm.trans hx347_2)
                       injection ea_ with ea_ en_ ec_
                       subst ea_
                       subst ec_
                       clear en_
                       have ea_ := Option.some.inj (hx346_3.symm.trans hx347_3)
                       injection ea_ with ea_ en_ ec_
                       subst ea_
                       subst ec_
                       clear en_
                       have p348 : 0 ≤ (x7_2 : Int) := of_decide_eq_true (by first | (with_reducible assumption) | assumption)
                       have q348 : x7_2 < (t329.length : Int) := of_decide_eq_true (by first | (with_reducible assumption) | assumption)
                       obtain ⟨ad348, A348_1, c348_1, A348_2, c348_2, A348_3, c348_3, e348, hx348_0, hx348_1, hx348_2, hx348_3, hl348_1, hi348_1, hl348_2, hi348_2, hl348_3, hi348_3⟩ := at_T31 (Kd.N_reads' HO_5.out).2.2 x7_2 p348 q348
                       obtain rfl : ad346 = ad348 := (by injection e348)
                       obtain ⟨ce348, hce348, hMe348, hcc348⟩ := Kd.N_get HO_5.out z31 x7_2 p348 (by first | exact q348 | exact of_decide_eq_true (by first | (with_reducible assumption) | assumption) | (have e_ := (Kd.N_reads' HO_5.out).1; omega))
                       obtain ⟨ua348_1, uc348_1, ua348_2, uc348_2, ua348_3, uc348_3, rfl, ul348_1, ge348_1, ul348_2, ge348_2, ul348_3, ge348_3⟩ := k31_openF hMe348
                       have hv348_1 := hcc348 1 _ rfl
                       rw [add_field _ _ 1 (by omega)] at hv348_1
                       replace hv348_1 := Option.some.inj (hv348_1.symm.trans hx348_1)
                       injection hv348_1 with hva_ hvn_ hvc_
                       rw [hva_] at ge348_1
                       rw [hvc_] at ul348_1
                       have HL348_1 := aM (show Kd.V k40 40 _ w.heap.size _ _ ((rd_T31 t329 x7_2).f1) from Kd.V_mk ul348_1 ge348_1)
                       clear hva_ hvn_ hvc_ ge348_1 ul348_1
                       have hv348_2 := hcc348 2 _ rfl
                       rw [add_field _ _ 2 (by omega)] at hv348_2
                       replace hv348_2 := Option.some.inj (hv348_2.symm.trans hx348_2)
                       injection hv348_2 with hva_ hvn_ hvc_
                       rw [hva_] at ge348_2
                       rw [hvc_] at ul348_2
                       have HL348_2 := aM (show Kd.V (Kd.int .i64) 3 _ w.heap.size _ _ ((rd_T31 t329 x7_2).f2) from Kd.V_mk ul348_2 ge348_2)
                       clear hva_ hvn_ hvc_ ge348_2 ul348_2
                       have hv348_3 := hcc348 3 _ rfl
                       rw [add_field _ _ 3 (by omega)] at hv348_3
                       replace hv348_3 := Option.some.inj (hv348_3.symm.trans hx348_3)
                       injection hv348_3 with hva_ hvn_ hvc_
                       rw [hva_] at ge348_3
                       rw [hvc_] at ul348_3
                       have HL348_3 := aM (show Kd.V k80 80 _ w.heap.size _ _ ((rd_T31 t329 x7_2).f3) from Kd.V_mk ul348_3 ge348_3)
                       clear hva_ hvn_ hvc_ ge348_3 ul348_3 hcc348 hce348
                       have HR348_1 := aM hi348_1
                       have HC348_1 := aM hl348_1
                       clear hi348_1 hl348_1
                       have HR348_2 := aM hi348_2
                       have HC348_2 := aM hl348_2
                       clear hi348_2 hl348_2
                       have HR348_3 := aM hi348_3
                       have HC348_3 := aM hl348_3
                       clear hi348_3 hl348_3
                       replace p348 := eq_true p348
                       replace q348 := eq_true q348
                       have ea_ := Option.some.inj (hx346_1.symm.trans hx348_1)
                       injection ea_ with ea_ en_ ec_
                       subst ea_
                       subst ec_
                       clear en_
                       have ea_ := Option.some.inj (hx346_2.symm.trans hx348_2)
                       injection ea_ with ea_ en_ ec_
                       subst ea_
                       subst ec_
                       clear en_
                       have ea_ := Option.some.inj (hx346_3.symm.trans hx348_3)
                       injection ea_ with ea_ en_ ec_
                       subst ea_
                       subst ec_
                       clear en_
                       have p349 : 0 ≤ (x8_3 : Int) := of_decide_eq_true (by first | (with_reducible assumption) | assumption)
                       have q349 : x8_3 < (((rd_T31 t329 x7_2).f1).length : Int) := of_decide_eq_true (by first | (with_reducible assumption) | assumption)
                       obtain ⟨ad349, e349, hx349_0, hx349_1⟩ := at_T40 (by repeat (first | (with_reducible exact HR348_1.out) | (with_reducible refine cA ?_ _) | (with_reducible refine cN ?_ _) | (with_reducible refine cD ?_) | exact HR348_1.out)) x8_3 p349 q349
                       cases e349
                       replace p349 := eq_true p349
                       replace q349 := eq_true q349
                       refine start_ (n := 50) (S := fun w' => w'.cell? ⟨gb345, 0, none⟩ = some (.int .i64 ((rd_T40 ((rd_T31 l0 x7_2).f1) x9_3).f0)) ∧ w'.cell? ⟨gb345, 1, none⟩ = some (.int .i64 ((rd_T40 ((rd_T31 l0 x7_2).f1) x9_3).f1)) ∧ w'.cell? (ad346.add ((x7_2).toNat * 4)) = some (.int .i64 ((rd_T31 t329 x7_2).f0)) ∧ w'.cell? ⟨(ad346.add ((x7_2).toNat * 4)).block, (ad346.add ((x7_2).toNat * 4)).off + 1, none⟩ = some (.slice (some ad349) ((rd_T31 t329 x7_2).f1).length c346_1) ∧ w'.cell? ⟨(ad346.add ((x7_2).toNat * 4)).block, (ad346.add ((x7_2).toNat * 4)).off + 2, none⟩ = some (.slice A346_2 ((rd_T31 t329 x7_2).f2).length c346_2) ∧ w'.cell? ⟨(ad346.add ((x7_2).toNat * 4)).block, (ad346.add ((x7_2).toNat * 4)).off + 3, none⟩ = some (.slice A346_3 ((rd_T31 t329 x7_2).f3).length c346_3) ∧ w'.cell? (ad346.add ((x7_2).toNat * 4)) = some (.int .i64 ((rd_T31 t329 x7_2).f0)) ∧ w'.cell? ⟨(ad346.add ((x7_2).toNat * 4)).block, (ad346.add ((x7_2).toNat * 4)).off + 1, none⟩ = some (.slice (some ad349) ((rd_T31 t329 x7_2).f1).length c346_1) ∧ w'.cell? ⟨(ad346.add ((x7_2).toNat * 4)).block, (ad346.add ((x7_2).toNat * 4)).off + 2, none⟩ = some (.slice A346_2 ((rd_T31 t329 x7_2).f2).length c346_2) ∧ w'.cell? ⟨(ad346.add ((x7_2).toNat * 4)).block, (ad346.add ((x7_2).toNat * 4)).off + 3, none⟩ = some (.slice A346_3 ((rd_T31 t329 x7_2).f3).length c346_3) ∧ w'.cell? (ad346.add ((x7_2).toNat * 4)) = some (.int .i64 ((rd_T31 t329 x7_2).f0)) ∧ w'.cell? ⟨(ad346.add ((x7_2).toNat * 4)).block, (ad346.add ((x7_2).toNat * 4)).off + 1, none⟩ = some (.slice (some ad349) ((rd_T31 t329 x7_2).f1).length c346_1) ∧ w'.cell? ⟨(ad346.add ((x7_2).toNat * 4)).block, (ad346.add ((x7_2).toNat * 4)).off + 2, none⟩ = some (.slice A346_2 ((rd_T31 t329 x7_2).f2).length c346_2) ∧ w'.cell? ⟨(ad346.add ((x7_2).toNat * 4)).block, (ad346.add ((x7_2).toNat * 4)).off + 3, none⟩ = some (.slice A346_3 ((rd_T31 t329 x7_2).f3).length c346_3) ∧ w'.cell? (ad349.add ((x8_3).toNat * 2)) = some (.int .i64 ((rd_T40 ((rd_T31 t329 x7_2).f1) x8_3).f0)) ∧ w'.cell? ⟨(ad349.add ((x8_3).toNat * 2)).block, (ad349.add ((x8_3).toNat * 2)).off + 1, none⟩ = some (.int .i64 ((rd_T40 ((rd_T31 t329 x7_2).f1) x8_3).f1))) (ds := []) #[false, false, false, false, false, false, false, false, false, false, false, false, false, false, false, false, false, false, false, false, false, false, false, false, false, false, false, false, false, false, false, false, false, false, false, false, false, false, false, false, false, false, false, false, false, false, false, false, false, false] (by kernel_rfl) rfl rfl ⟨(kC BK345.out 0).trans rfl, (kC BK345.out 1).trans rfl, hx346_0, hx346_1, hx346_2, hx346_3, hx347_0, hx347_1, hx347_2, hx347_3, hx348_0, hx348_1, hx348_2, hx348_3, hx349_0, hx349_1⟩ (fun hHeld => ?_); refine with_tabW mapmakerlaw26_GeneralizeKeeps.tab14 mapmakerlaw26_GeneralizeKeeps.bits14 (fun HT_ HW_ => ?_)
                       generalize w43.drew = w44 at HO_5 HO_6 BK345 HB HL346_1 HL346_2 HL346_3 HL347_1 HL347_2 HL347_3 HL348_1 HL348_2 HL348_3 HR346_1 HR346_2 HR346_3 HR347_1 HR347_2 HR347_3 HR348_1 HR348_2 HR348_3 hx346_0 hx346_1 hx346_2 hx346_3 hx347_0 hx347_1 hx347_2 hx347_3 hx348_0 hx348_1 hx348_2 hx348_3 hx349_0 hx349_1 hHeld ⊢
                       refine pure_ (i := 0) (N := some 65) (v := ?_) (a' := ?_) (ba 50 1) rfl rfl (any_of HT_.out (by kernel_rfl)) (fun _ _ _ h => h) (Or.inl ⟨by rfl, ?_⟩) ?_ ?_
                       rotate_left
                       ·intro w'
                        go_simp
                        with_reducible rfl
                       rotate_left
                       ·simp only [Act.put, sA, sB, sC, i64_w, i32_w]
                        rfl
                       refine pure_ (i := 1) (N := some 66) (v := ?_) (a' := ?_) (ba 50 3) rfl rfl (any_of HT_.out (by kernel_rfl)) (fun _ _ _ h => h) (Or.inl ⟨by rfl, ?_⟩) ?_ ?_
                       rotate_left
                       ·intro w'
                        go_simp
                        with_reducible rfl
                       rotate_left
                       ·simp only [Act.put, sA, sB, sC, i64_w, i32_w]
                        rfl
                       refine pure_ (i := 2) (N := some 67) (v := ?_) (a' := ?_) (ba 50 7) rfl rfl (any_of HT_.out (by kernel_rfl)) (fun _ _ _ h => h) (Or.inl ⟨by rfl, ?_⟩) ?_ ?_
                       rotate_left
                       ·intro w'
                        go_simp
                        with_reducible rfl
                       rotate_left
                       ·simp only [Act.put, sA, sB, sC, i64_w, i32_w]
                        rfl
                       refine pure_ (i := 3) (N := some 68) (v := ?_) (a' := ?_) (ba 50 15) rfl rfl (any_of HT_.out (by kernel_rfl)) (fun _ _ _ h => h) (Or.inl ⟨by rfl, ?_⟩) ?_ ?_
                       rotate_left
                       ·intro w'
                        go_simp
                        with_reducible rfl
                       rotate_left
                       ·simp only [Act.put, sA, sB, sC, i64_w, i32_w]
                        rfl
                       refine pure_ (i := 4) (N := some 69) (v := ?_) (a' := ?_) (ba 50 31) rfl rfl (any_of HT_.out (by kernel_rfl)) (fun _ _ _ h => h) (Or.inl ⟨by rfl, ?_⟩) ?_ ?_
                       rotate_left
                       ·intro w'
                        go_simp
                        with_reducible rfl
                       rotate_left
                       ·simp only [Act.put, sA, sB, sC, i64_w, i32_w]
                        rfl
                       refine take_ (i := 5) (N := some 70) (v := ?_) (a' := ?_) (ba 50 63) rfl rfl (take_ofW HT_.out HW_.out (by kernel_rfl)) (fun _ _ _ h => h) (Or.inl ⟨by rfl, ?_⟩) hHeld ?_ ?_
                       rotate_left
                       ·rintro w' ⟨s0, s1, s2, s3, s4, s5, s6, s7, s8, s9, s10, s11, s12, s13, s14, s15⟩
                        go_simp
                        with_reducible rfl
                       rotate_left
                       ·simp only [Act.put, sA, sB, sC, i64_w, i32_w]
                        rfl
                       refine pure_ (i := 6) (N := some 71) (v := ?_) (a' := ?_) (ba 50 127) rfl rfl (any_of HT_.out (by kernel_rfl)) (fun _ _ _ h => h) (Or.inl ⟨by rfl, ?_⟩) ?_ ?_
                       rotate_left
                       ·intro w'
                        go_simp
                        with_reducible rfl
                       rotate_left
                       ·simp only [Act.put, sA, sB, sC, i64_w, i32_w]
                        rfl
                       refine pure_ (i := 7) (N := some 72) (v := ?_) (a' := ?_) (ba 50 255) rfl rfl (any_of HT_.out (by kernel_rfl)) (fun _ _ _ h => h) (Or.inl ⟨by rfl, ?_⟩) ?_ ?_
                       rotate_left
                       ·intro w'
                        go_simp
                        with_reducible rfl
                       rotate_left
                       ·simp only [Act.put, sA, sB, sC, i64_w, i32_w]
                        rfl
                       refine pure_ (i := 8) (N := some 73) (v := ?_) (a' := ?_) (ba 50 511) rfl rfl (any_of HT_.out (by kernel_rfl)) (fun _ _ _ h => h) (Or.inl ⟨by rfl, ?_⟩) ?_ ?_
                       rotate_left
                       ·intro w'
                        go_simp
                        with_reducible rfl
                       rotate_left
                       ·simp only [Act.put, sA, sB, sC, i64_w, i32_w]
                        rfl
                       refine pure_ (i := 9) (N := some 74) (v := ?_) (a' := ?_) (ba 50 1023) rfl rfl (any_of HT_.out (by kernel_rfl)) (fun _ _ _ h => h) (Or.inl ⟨by rfl, ?_⟩) ?_ ?_
                       rotate_left
                       ·intro w'
                        go_simp
                        with_reducible rfl
                       rotate_left
                       ·simp only [Act.put, sA, sB, sC, i64_w, i32_w]
                        rfl
                       refine pure_ (i := 10) (N := some 75) (v := ?_) (a' := ?_) (ba 50 2047) rfl rfl (any_of HT_.out (by kernel_rfl)) (fun _ _ _ h => h) (Or.inl ⟨by rfl, ?_⟩) ?_ ?_
                       rotate_left
                       ·intro w'
                        go_simp
                        with_reducible rfl
                       rotate_left
                       ·simp only [Act.put, sA, sB, sC, i64_w, i32_w]
                        rfl
                       refine pure_ (i := 11) (N := some 76) (v := ?_) (a' := ?_) (ba 50 4095) rfl rfl (any_of HT_.out (by kernel_rfl)) (fun _ _ _ h => h) (Or.inl ⟨by rfl, ?_⟩) ?_ ?_
                       rotate_left
                       ·intro w'
                        go_simp
                        with_reducible rfl
                       rotate_left
                       ·simp only [Act.put, sA, sB, sC, i64_w, i32_w]
                        rfl
                       refine pure_ (i := 12) (N := some 77) (v := ?_) (a' := ?_) (ba 50 8191) rfl rfl (any_of HT_.out (by kernel_rfl)) (fun _ _ _ h => h) (Or.inl ⟨by rfl, ?_⟩) ?_ ?_
                       rotate_left
                       ·intro w'
                        go_simp
                        with_reducible rfl
                       rotate_left
                       ·simp only [Act.put, sA, sB, sC, i64_w, i32_w]
                        rfl
                       refine pure_ (i := 13) (N := some 78) (v := ?_) (a' := ?_) (ba 50 16383) rfl rfl (any_of HT_.out (by kernel_rfl)) (fun _ _ _ h => h) (Or.inl ⟨by rfl, ?_⟩) ?_ ?_
                       rotate_left
                       ·intro w'
                        go_simp
                        with_reducible rfl
                       rotate_left
                       ·simp only [Act.put, sA, sB, sC, i64_w, i32_w]
                        rfl
                       refine take_ (i := 14) (N := some 79) (v := ?_) (a' := ?_) (ba 50 32767) rfl rfl (take_ofW HT_.out HW_.out (by kernel_rfl)) (fun _ _ _ h => h) (Or.inl ⟨by rfl, ?_⟩) hHeld ?_ ?_
                       rotate_left
                       ·rintro w' ⟨s0, s1, s2, s3, s4, s5, s6, s7, s8, s9, s10, s11, s12, s13, s14, s15⟩
                        go_simp
                        with_reducible rfl
                       rotate_left
                       ·simp only [Act.put, sA, sB, sC, i64_w, i32_w]
                        rfl
                       refine pure_ (i := 15) (N := some 80) (v := ?_) (a' := ?_) (ba 50 65535) rfl rfl (any_of HT_.out (by kernel_rfl)) (fun _ _ _ h => h) (Or.inl ⟨by rfl, ?_⟩) ?_ ?_
                       rotate_left
                       ·intro w'
                        go_simp
                        with_reducible rfl
                       rotate_left
                       ·simp only [Act.put, sA, sB, sC, i64_w, i32_w]
                        rfl
                       refine pure_ (i := 16) (N := some 81) (v := ?_) (a' := ?_) (ba 50 131071) rfl rfl (any_of HT_.out (by kernel_rfl)) (fun _ _ _ h => h) (Or.inl ⟨by rfl, ?_⟩) ?_ ?_
                       rotate_left
                       ·intro w'
                        go_simp
                        with_reducible rfl
                       rotate_left
                       ·simp only [Act.put, sA, sB, sC, i64_w, i32_w]
                        rfl
                       refine pure_ (i := 17) (N := some 82) (v := ?_) (a' := ?_) (ba 50 262143) rfl rfl (any_of HT_.out (by kernel_rfl)) (fun _ _ _ h => h) (Or.inl ⟨by rfl, ?_⟩) ?_ ?_
                       rotate_left
                       ·intro w'
                        go_simp
                        with_reducible rfl
                       rotate_left
                       ·simp only [Act.put, sA, sB, sC, i64_w, i32_w]
                        rfl
                       refine pure_ (i := 18) (N := some 83) (v := ?_) (a' := ?_) (ba 50 524287) rfl rfl (any_of HT_.out (by kernel_rfl)) (fun _ _ _ h => h) (Or.inl ⟨by rfl, ?_⟩) ?_ ?_
                       rotate_left
                       ·intro w'
                        go_simp
                        with_reducible rfl
                       rotate_left
                       ·simp only [Act.put, sA, sB, sC, i64_w, i32_w]
                        rfl
                       refine pure_ (i := 19) (N := some 84) (v := ?_) (a' := ?_) (ba 50 1048575) rfl rfl (any_of HT_.out (by kernel_rfl)) (fun _ _ _ h => h) (Or.inl ⟨by rfl, ?_⟩) ?_ ?_
                       rotate_left
                       ·intro w'
                        go_simp
                        with_reducible rfl
                       rotate_left
                       ·simp only [Act.put, sA, sB, sC, i64_w, i32_w]
                        rfl
                       refine pure_ (i := 20) (N := some 85) (v := ?_) (a' := ?_) (ba 50 2097151) rfl rfl (any_of HT_.out (by kernel_rfl)) (fun _ _ _ h => h) (Or.inl ⟨by rfl, ?_⟩) ?_ ?_
                       rotate_left
                       ·intro w'
                        go_simp
                        with_reducible rfl
                       rotate_left
                       ·simp only [Act.put, sA, sB, sC, i64_w, i32_w]
                        rfl
                       refine pure_ (i := 21) (N := some 86) (v := ?_) (a' := ?_) (ba 50 4194303) rfl rfl (any_of HT_.out (by kernel_rfl)) (fun _ _ _ h => h) (Or.inl ⟨by rfl, ?_⟩) ?_ ?_
                       rotate_left
                       ·intro w'
                        go_simp
                        with_reducible rfl
                       rotate_left
                       ·simp only [Act.put, sA, sB, sC, i64_w, i32_w]
                        rfl
                       refine pure_ (i := 22) (N := some 87) (v := ?_) (a' := ?_) (ba 50 8388607) rfl rfl (any_of HT_.out (by kernel_rfl)) (fun _ _ _ h => h) (Or.inl ⟨by rfl, ?_⟩) ?_ ?_
                       rotate_left
                       ·intro w'
                        go_simp
                        with_reducible rfl
                       rotate_left
                       ·simp only [Act.put, sA, sB, sC, i64_w, i32_w]
                        rfl
                       refine pure_ (i := 24) (N := some 89) (v := ?_) (a' := ?_) (ba 50 25165823) rfl rfl (any_of HT_.out (by kernel_rfl)) (fun _ _ _ h => h) (Or.inl ⟨by rfl, ?_⟩) ?_ ?_
                       rotate_left
                       ·intro w'
                        go_simp
                        with_reducible rfl
                       rotate_left
                       ·simp only [Act.put, sA, sB, sC, i64_w, i32_w]
                        rfl
                       refine take_ (i := 23) (N := some 88) (v := ?_) (a' := ?_) (ba 50 33554431) rfl rfl (take_ofW HT_.out HW_.out (by kernel_rfl)) (fun _ _ _ h => h) (Or.inl ⟨by rfl, ?_⟩) hHeld ?_ ?_
                       rotate_left
                       ·rintro w' ⟨s0, s1, s2, s3, s4, s5, s6, s7, s8, s9, s10, s11, s12, s13, s14, s15⟩
                        go_simp
                        with_reducible rfl
                       rotate_left
                       ·simp only [Act.put, sA, sB, sC, i64_w, i32_w]
                        rfl
                       refine pure_ (i := 25) (N := some 90) (v := ?_) (a' := ?_) (ba 50 67108863) rfl rfl (any_of HT_.out (by kernel_rfl)) (fun _ _ _ h => h) (Or.inl ⟨by rfl, ?_⟩) ?_ ?_
                       rotate_left
                       ·intro w'
                        go_simp
                        with_reducible rfl
                       rotate_left
                       ·simp only [Act.put, sA, sB, sC, i64_w, i32_w]
                        rfl
                       refine take_ (i := 26) (N := some 91) (v := ?_) (a' := ?_) (ba 50 134217727) rfl rfl (take_ofW HT_.out HW_.out (by kernel_rfl)) (fun _ _ _ h => h) (Or.inl ⟨by rfl, ?_⟩) hHeld ?_ ?_
                       rotate_left
                       ·rintro w' ⟨s0, s1, s2, s3, s4, s5, s6, s7, s8, s9, s10, s11, s12, s13, s14, s15⟩
                        go_simp
                        with_reducible rfl
                       rotate_left
                       ·simp only [Act.put, sA, sB, sC, i64_w, i32_w]
                        rfl
                       refine take_ (i := 27) (N := some 92) (v := ?_) (a' := ?_) (ba 50 268435455) rfl rfl (take_ofW HT_.out HW_.out (by kernel_rfl)) (fun _ _ _ h => h) (Or.inl ⟨by rfl, ?_⟩) hHeld ?_ ?_
                       rotate_left
                       ·rintro w' ⟨s0, s1, s2, s3, s4, s5, s6, s7, s8, s9, s10, s11, s12, s13, s14, s15⟩
                        go_simp
                        with_reducible rfl
                       rotate_left
                       ·simp only [Act.put, sA, sB, sC, i64_w, i32_w]
                        rfl
                       refine pure_ (i := 28) (N := some 93) (v := ?_) (a' := ?_) (ba 50 536870911) rfl rfl (any_of HT_.out (by kernel_rfl)) (fun _ _ _ h => h) (Or.inl ⟨by rfl, ?_⟩) ?_ ?_
                       rotate_left
                       ·intro w'
                        go_simp
                        with_reducible rfl
                       rotate_left
                       ·simp only [Act.put, sA, sB, sC, i64_w, i32_w]
                        rfl
                       refine pure_ (i := 29) (N := some 94) (v := ?_) (a' := ?_) (ba 50 1073741823) rfl rfl (any_of HT_.out (by kernel_rfl)) (fun _ _ _ h => h) (Or.inl ⟨by rfl, ?_⟩) ?_ ?_
                       rotate_left
                       ·intro w'
                        go_simp
                        with_reducible rfl
                       rotate_left
                       ·simp only [Act.put, sA, sB, sC, i64_w, i32_w]
                        rfl
                       refine pure_ (i := 30) (N := some 95) (v := ?_) (a' := ?_) (ba 50 2147483647) rfl rfl (any_of HT_.out (by kernel_rfl)) (fun _ _ _ h => h) (Or.inl ⟨by rfl, ?_⟩) ?_ ?_
                       rotate_left
                       ·intro w'
                        go_simp
                        with_reducible rfl
                       rotate_left
                       ·simp only [Act.put, sA, sB, sC, i64_w, i32_w]
                        rfl
                       refine pure_ (i := 31) (N := some 96) (v := undef) (a' := ?_) (ba 50 4294967295) rfl rfl (any_of HT_.out (by kernel_rfl)) (fun _ _ _ h => h) (Or.inr ⟨by rfl, rfl⟩) ?_ ?_
                       rotate_left
                       ·simp only [Act.put, sA, sB, sC, i64_w, i32_w]
                        rfl
                       refine pure_ (i := 32) (N := some 97) (v := undef) (a' := ?_) (ba 50 8589934591) rfl rfl (any_of HT_.out (by kernel_rfl)) (fun _ _ _ h => h) (Or.inr ⟨by rfl, rfl⟩) ?_ ?_
                       rotate_left
                       ·simp only [Act.put, sA, sB, sC, i64_w, i32_w]
                        rfl
                       refine pure_ (i := 33) (N := some 98) (v := undef) (a' := ?_) (ba 50 17179869183) rfl rfl (any_of HT_.out (by kernel_rfl)) (fun _ _ _ h => h) (Or.inr ⟨by rfl, rfl⟩) ?_ ?_
                       rotate_left
                       ·simp only [Act.put, sA, sB, sC, i64_w, i32_w]
                        rfl
                       refine pure_ (i := 34) (N := some 99) (v := undef) (a' := ?_) (ba 50 34359738367) rfl rfl (any_of HT_.out (by kernel_rfl)) (fun _ _ _ h => h) (Or.inr ⟨by rfl, rfl⟩) ?_ ?_
                       rotate_left
                       ·simp only [Act.put, sA, sB, sC, i64_w, i32_w]
                        rfl
                       refine pure_ (i := 35) (N := some 100) (v := undef) (a' := ?_) (ba 50 68719476735) rfl rfl (any_of HT_.out (by kernel_rfl)) (fun _ _ _ h => h) (Or.inr ⟨by rfl, rfl⟩) ?_ ?_
                       rotate_left
                       ·simp only [Act.put, sA, sB, sC, i64_w, i32_w]
                        rfl
                       refine pure_ (i := 36) (N := some 101) (v := undef) (a' := ?_) (ba 50 137438953471) rfl rfl (any_of HT_.out (by kernel_rfl)) (fun _ _ _ h => h) (Or.inr ⟨by rfl, rfl⟩) ?_ ?_
                       rotate_left
                       ·simp only [Act.put, sA, sB, sC, i64_w, i32_w]
                        rfl
                       refine pure_ (i := 37) (N := some 102) (v := undef) (a' := ?_) (ba 50 274877906943) rfl rfl (any_of HT_.out (by kernel_rfl)) (fun _ _ _ h => h) (Or.inr ⟨by rfl, rfl⟩) ?_ ?_
                       rotate_left
                       ·simp only [Act.put, sA, sB, sC, i64_w, i32_w]
                        rfl
                       refine pure_ (i := 38) (N := some 103) (v := undef) (a' := ?_) (ba 50 549755813887) rfl rfl (any_of HT_.out (by kernel_rfl)) (fun _ _ _ h => h) (Or.inr ⟨by rfl, rfl⟩) ?_ ?_
                       rotate_left
                       ·simp only [Act.put, sA, sB, sC, i64_w, i32_w]
                        rfl
                       refine pure_ (i := 39) (N := some 104) (v := undef) (a' := ?_) (ba 50 1099511627775) rfl rfl (any_of HT_.out (by kernel_rfl)) (fun _ _ _ h => h) (Or.inr ⟨by rfl, rfl⟩) ?_ ?_
                       rotate_left
                       ·simp only [Act.put, sA, sB, sC, i64_w, i32_w]
                        rfl
                       refine pure_ (i := 40) (N := some 105) (v := undef) (a' := ?_) (ba 50 2199023255551) rfl rfl (any_of HT_.out (by kernel_rfl)) (fun _ _ _ h => h) (Or.inr ⟨by rfl, rfl⟩) ?_ ?_
                       rotate_left
                       ·simp only [Act.put, sA, sB, sC, i64_w, i32_w]
                        rfl
                       refine pure_ (i := 41) (N := some 106) (v := undef) (a' := ?_) (ba 50 4398046511103) rfl rfl (any_of HT_.out (by kernel_rfl)) (fun _ _ _ h => h) (Or.inr ⟨by rfl, rfl⟩) ?_ ?_
                       rotate_left
                       ·simp only [Act.put, sA, sB, sC, i64_w, i32_w]
                        rfl
                       refine pure_ (i := 42) (N := some 107) (v := undef) (a' := ?_) (ba 50 8796093022207) rfl rfl (any_of HT_.out (by kernel_rfl)) (fun _ _ _ h => h) (Or.inr ⟨by rfl, rfl⟩) ?_ ?_
                       rotate_left
                       ·simp only [Act.put, sA, sB, sC, i64_w, i32_w]
                        rfl
                       refine pure_ (i := 43) (N := some 108) (v := undef) (a' := ?_) (ba 50 17592186044415) rfl rfl (any_of HT_.out (by kernel_rfl)) (fun _ _ _ h => h) (Or.inr ⟨by rfl, rfl⟩) ?_ ?_
                       rotate_left
                       ·simp only [Act.put, sA, sB, sC, i64_w, i32_w]
                        rfl
                       refine pure_ (i := 44) (N := some 109) (v := undef) (a' := ?_) (ba 50 35184372088831) rfl rfl (any_of HT_.out (by kernel_rfl)) (fun _ _ _ h => h) (Or.inr ⟨by rfl, rfl⟩) ?_ ?_
                       rotate_left
                       ·simp only [Act.put, sA, sB, sC, i64_w, i32_w]
                        rfl
                       refine pure_ (i := 45) (N := some 110) (v := undef) (a' := ?_) (ba 50 70368744177663) rfl rfl (any_of HT_.out (by kernel_rfl)) (fun _ _ _ h => h) (Or.inr ⟨by rfl, rfl⟩) ?_ ?_
                       rotate_left
                       ·simp only [Act.put, sA, sB, sC, i64_w, i32_w]
                        rfl
                       refine pure_ (i := 46) (N := some 111) (v := undef) (a' := ?_) (ba 50 140737488355327) rfl rfl (any_of HT_.out (by kernel_rfl)) (fun _ _ _ h => h) (Or.inr ⟨by rfl, rfl⟩) ?_ ?_
                       rotate_left
                       ·simp only [Act.put, sA, sB, sC, i64_w, i32_w]
                        rfl
                       refine pure_ (i := 47) (N := some 112) (v := undef) (a' := ?_) (ba 50 281474976710655) rfl rfl (any_of HT_.out (by kernel_rfl)) (fun _ _ _ h => h) (Or.inr ⟨by rfl, rfl⟩) ?_ ?_
                       rotate_left
                       ·simp only [Act.put, sA, sB, sC, i64_w, i32_w]
                        rfl
                       refine pure_ (i := 48) (N := some 113) (v := ?_) (a' := ?_) (ba 50 562949953421311) rfl rfl (any_of HT_.out (by kernel_rfl)) (fun _ _ _ h => h) (Or.inl ⟨by rfl, ?_⟩) ?_ ?_
                       rotate_left
                       ·intro w'
                        go_simp
                        with_reducible rfl
                       rotate_left
                       ·simp only [Act.put, sA, sB, sC, i64_w, i32_w]
                        rfl
                       refine pure_ (i := 49) (N := some 11) (v := ?_) (a' := ?_) (ba 50 1125899906842623) rfl rfl (any_of HT_.out (by kernel_rfl)) (fun _ _ _ h => h) (Or.inl ⟨by rfl, ?_⟩) ?_ ?_
                       rotate_left
                       ·intro w'
                        go_simp
                        with_reducible rfl
                       rotate_left
                       ·simp only [Act.put, sA, sB, sC, i64_w, i32_w]
                        rfl
                       refine done_ (done_of HT_.out (by kernel_rfl)) ?_
                       try go_wp2
                       go_meet
                       case rel => exact ⟨_, (false), (by first | rfl | (simp; done) | (simp [*]; done)), H', ⟨by have := HJ6.out; have := HK2.out; have := HK3.out; have := HJ19.out; first | omega | exact Nat.le_refl _⟩, ⟨by (with_reducible repeat (first | apply Kd.N_alloc | apply Kd.N_drewN | apply Kd.N_drew)); exact HO_5.out⟩, ⟨by (with_reducible repeat (first | apply rA | apply rN | apply rD)); exact HO_6.out⟩, ⟨by (with_reducible repeat (first | refine kN ?_ _ | refine kD ?_ | refine kA ?_ _)); exact BK345.out⟩, ⟨bl⟩⟩
                     ·rw [if_neg c37] at H
                      exact absurd H (by simp)
                    ·rw [if_neg c36] at H
                     exact absurd H (by simp)
                   ·as_aux_lemma =>
                    rw [if_neg c35] at H
                    have c35b0 : decide (x8_3 < (((rd_T31 t329 x7_2).f1).length : Int)) = false := decide_eq_false c35
                    clear c35
                    have H' := aM H
                    clear H
                    try go_wp2
                    have n0_ : Aside0 (Kd.N k31 31 ((w32.setCell ⟨gb345, 0, none⟩ (.int .i64 ((rd_T40 ((rd_T31 l0 x7_2).f1) x9_3).f0))).setCell ⟨gb345, 1, none⟩ (.int .i64 ((rd_T40 ((rd_T31 l0 x7_2).f1) x9_3).f1))) w.heap.size (fun k_ => some k_ ≠ (v333 : Value).ownBlock ∧ k_ ≠ gb345) v330 t329) := ⟨by (with_reducible repeat (first | apply Kd.N_alloc | apply Kd.N_drewN | apply Kd.N_drew)); exact Kd.N_mono (Kd.N_far (p := ⟨gb345, 1, none⟩) (Kd.N_far (p := ⟨gb345, 0, none⟩) (Kd.N_mono HO_5.out (fun k_ hk => (⟨hk, hk.2⟩ : _ ∧ k_ ≠ gb345))) (fun _ hk => hk.2) (.int .i64 ((rd_T40 ((rd_T31 l0 x7_2).f1) x9_3).f0))) (fun _ hk => hk.2) (.int .i64 ((rd_T40 ((rd_T31 l0 x7_2).f1) x9_3).f1))) (fun _ hk => ⟨hk.1.1, hk.1.2⟩)⟩
                    have n1_ : Aside0 (Kd.R k40 40 ((w32.setCell ⟨gb345, 0, none⟩ (.int .i64 ((rd_T40 ((rd_T31 l0 x7_2).f1) x9_3).f0))).setCell ⟨gb345, 1, none⟩ (.int .i64 ((rd_T40 ((rd_T31 l0 x7_2).f1) x9_3).f1))) w.heap.size (fun k_ => k_ ≠ gb345) v333 t332) := ⟨by (with_reducible repeat (first | apply rA | apply rN | apply rD)); exact rM (Kd.R_far (p := ⟨gb345, 1, none⟩) (Kd.R_far (p := ⟨gb345, 0, none⟩) (rM HO_6.out (fun k_ hk => (⟨hk, hk.2⟩ : _ ∧ k_ ≠ gb345))) (fun _ hk => hk.2) (.int .i64 ((rd_T40 ((rd_T31 l0 x7_2).f1) x9_3).f0))) (fun _ hk => hk.2) (.int .i64 ((rd_T40 ((rd_T31 l0 x7_2).f1) x9_3).f1))) (fun _ hk => hk.1.2)⟩
                    have n2_ : Aside0 (((w32.setCell ⟨gb345, 0, none⟩ (.int .i64 ((rd_T40 ((rd_T31 l0 x7_2).f1) x9_3).f0))).setCell ⟨gb345, 1, none⟩ (.int .i64 ((rd_T40 ((rd_T31 l0 x7_2).f1) x9_3).f1))).heap[gb345]? = some (.cells #[.int .i64 ((rd_T40 ((rd_T31 l0 x7_2).f1) x9_3).f0), .int .i64 ((rd_T40 ((rd_T31 l0 x7_2).f1) x9_3).f1)] 40 (0, 0))) := ⟨by (with_reducible repeat (first | refine kN ?_ _ | refine kD ?_ | refine kA ?_ _)); refine kP (cs := #[.int .i64 ((rd_T40 ((rd_T31 l0 x7_2).f1) x9_3).f0), .int .i64 0]) ?_ 1 _ rfl; (with_reducible repeat (first | refine kN ?_ _ | refine kD ?_ | refine kA ?_ _)); refine kP (cs := #[.int .i64 0, .int .i64 0]) ?_ 0 _ rfl; (with_reducible repeat (first | refine kN ?_ _ | refine kD ?_ | refine kA ?_ _)); exact BK345.out⟩
                    have n3_ : Aside0 (Below w.heap.size w ((w32.setCell ⟨gb345, 0, none⟩ (.int .i64 ((rd_T40 ((rd_T31 l0 x7_2).f1) x9_3).f0))).setCell ⟨gb345, 1, none⟩ (.int .i64 ((rd_T40 ((rd_T31 l0 x7_2).f1) x9_3).f1)))) := ⟨bl⟩
                    (try clear HO_5)
                    (try clear HO_6)
                    (try clear BK345)
                    (try clear HB)
                    generalize ((w32.setCell ⟨gb345, 0, none⟩ (.int .i64 ((rd_T40 ((rd_T31 l0 x7_2).f1) x9_3).f0))).setCell ⟨gb345, 1, none⟩ (.int .i64 ((rd_T40 ((rd_T31 l0 x7_2).f1) x9_3).f1))) = w49 at n0_ n1_ n2_ n3_ ⊢
                    have HO_5 := n0_
                    have HO_6 := n1_
                    have BK345 := n2_
                    have HB := n3_
                    clear n0_ n1_ n2_ n3_
                    replace HO_5 := aM (Kd.N_drew HO_5.out)
                    replace HO_6 := aM (rD HO_6.out)
                    replace BK345 := aM (kD BK345.out)
                    replace HB := aM (bD HB.out)
                    obtain ⟨Ao51, co51, eo51⟩ := Kd.N_slice HO_5.out
                    (first | subst eo51 | (injection eo51 with f1_ f2_ f3_; have f4_ := f1_.symm; have f5_ := f3_.symm; clear f1_ f2_ f3_; subst f4_; subst f5_))
                    have p346 : 0 ≤ (x7_2 : Int) := of_decide_eq_true (by first | (with_reducible assumption) | assumption)
                    have q346 : x7_2 < (t329.length : Int) := of_decide_eq_true (by first | (with_reducible assumption) | assumption)
                    obtain ⟨ad346, A346_1, c346_1, A346_2, c346_2, A346_3, c346_3, e346, hx346_0, hx346_1, hx346_2, hx346_3, hl346_1, hi346_1, hl346_2, hi346_2, hl346_3, hi346_3⟩ := at_T31 (Kd.N_reads' HO_5.out).2.2 x7_2 p346 q346
                    cases e346
                    obtain ⟨ce346, hce346, hMe346, hcc346⟩ := Kd.N_get HO_5.out z31 x7_2 p346 (by first | exact q346 | exact of_decide_eq_true (by first | (with_reducible assumption) | assumption) | (have e_ := (Kd.N_reads' HO_5.out).1; omega))
                    obtain ⟨ua346_1, uc346_1, ua346_2, uc346_2, ua346_3, uc346_3, rfl, ul346_1, ge346_1, ul346_2, ge346_2, ul346_3, ge346_3⟩ := k31_openF hMe346
                    have hv346_1 := hcc346 1 _ rfl
                    rw [add_field _ _ 1 (by omega)] at hv346_1
                    replace hv346_1 := Option.some.inj (hv346_1.symm.trans hx346_1)
                    injection hv346_1 with hva_ hvn_ hvc_
                    rw [hva_] at ge346_1
                    rw [hvc_] at ul346_1
                    have HL346_1 := aM (show Kd.V k40 40 _ w.heap.size _ _ ((rd_T31 t329 x7_2).f1) from Kd.V_mk ul346_1 ge346_1)
                    clear hva_ hvn_ hvc_ ge346_1 ul346_1
                    have hv346_2 := hcc346 2 _ rfl
                    rw [add_field _ _ 2 (by omega)] at hv346_2
                    replace hv346_2 := Option.some.inj (hv346_2.symm.trans hx346_2)
                    injection hv346_2 with hva_ hvn_ hvc_
                    rw [hva_] at ge346_2
                    rw [hvc_] at ul346_2
                    have HL346_2 := aM (show Kd.V (Kd.int .i64) 3 _ w.heap.size _ _ ((rd_T31 t329 x7_2).f2) from Kd.V_mk ul346_2 ge346_2)
                    clear hva_ hvn_ hvc_ ge346_2 ul346_2
                    have hv346_3 := hcc346 3 _ rfl
                    rw [add_field _ _ 3 (by omega)] at hv346_3
                    replace hv346_3 := Option.some.inj (hv346_3.symm.trans hx346_3)
                    injection hv346_3 with hva_ hvn_ hvc_
                    rw [hva_] at ge346_3
                    rw [hvc_] at ul346_3
                    have HL346_3 := aM (show Kd.V k80 80 _ w.heap.size _ _ ((rd_T31 t329 x7_2).f3) from Kd.V_mk ul346_3 ge346_3)
                    clear hva_ hvn_ hvc_ ge346_3 ul346_3 hcc346 hce346
                    have HR346_1 := aM hi346_1
                    have HC346_1 := aM hl346_1
                    clear hi346_1 hl346_1
                    have HR346_2 := aM hi346_2
                    have HC346_2 := aM hl346_2
                    clear hi346_2 hl346_2
                    have HR346_3 := aM hi346_3
                    have HC346_3 := aM hl346_3
                    clear hi346_3 hl346_3
                    replace p346 := eq_true p346
                    replace q346 := eq_true q346
                    refine start_ (n := 50) (S := fun w' => w'.cell? (ad346.add ((x7_2).toNat * 4)) = some (.int .i64 ((rd_T31 t329 x7_2).f0)) ∧ w'.cell? ⟨(ad346.add ((x7_2).toNat * 4)).block, (ad346.add ((x7_2).toNat * 4)).off + 1, none⟩ = some (.slice A346_1 ((rd_T31 t329 x7_2).f1).length c346_1) ∧ w'.cell? ⟨(ad346.add ((x7_2).toNat * 4)).block, (ad346.add ((x7_2).toNat * 4)).off + 2, none⟩ = some (.slice A346_2 ((rd_T31 t329 x7_2).f2).length c346_2) ∧ w'.cell? ⟨(ad346.add ((x7_2).toNat * 4)).block, (ad346.add ((x7_2).toNat * 4)).off + 3, none⟩ = some (.slice A346_3 ((rd_T31 t329 x7_2).f3).length c346_3)) (ds := []) #[false, false, false, false, false, false, false, false, false, false, false, false, false, false, false, false, false, false, false, false, false, false, false, false, false, false, false, false, false, false, false, false, false, false, false, false, false, false, false, false, false, false, false, false, false, false, false, false, false, false] (by kernel_rfl) rfl rfl ⟨hx346_0, hx346_1, hx346_2, hx346_3⟩ (fun hHeld => ?_); refine with_tabW mapmakerlaw26_GeneralizeKeeps.tab14 mapmakerlaw26_GeneralizeKeeps.bits14 (fun HT_ HW_ => ?_)
                    generalize w49.drew = w50 at HO_5 HO_6 BK345 HB HL346_1 HL346_2 HL346_3 HR346_1 HR346_2 HR346_3 hx346_0 hx346_1 hx346_2 hx346_3 hHeld ⊢
                    refine pure_ (i := 0) (N := some 65) (v := ?_) (a' := ?_) (ba 50 1) rfl rfl (any_of HT_.out (by kernel_rfl)) (fun _ _ _ h => h) (Or.inl ⟨by rfl, ?_⟩) ?_ ?_
                    rotate_left
                    ·intro w'
                     go_simp
                     with_reducible rfl
                    rotate_left
                    ·simp only [Act.put, sA, sB, sC, i64_w, i32_w]
                     rfl
                    refine pure_ (i := 1) (N := some 66) (v := ?_) (a' := ?_) (ba 50 3) rfl rfl (any_of HT_.out (by kernel_rfl)) (fun _ _ _ h => h) (Or.inl ⟨by rfl, ?_⟩) ?_ ?_
                    rotate_left
                    ·intro w'
                     go_simp
                     with_reducible rfl
                    rotate_left
                    ·simp only [Act.put, sA, sB, sC, i64_w, i32_w]
                     rfl
                    refine pure_ (i := 2) (N := some 67) (v := ?_) (a' := ?_) (ba 50 7) rfl rfl (any_of HT_.out (by kernel_rfl)) (fun _ _ _ h => h) (Or.inl ⟨by rfl, ?_⟩) ?_ ?_
                    rotate_left
                    ·intro w'
                     go_simp
                     with_reducible rfl
                    rotate_left
                    ·simp only [Act.put, sA, sB, sC, i64_w, i32_w]
                     rfl
                    refine pure_ (i := 3) (N := some 68) (v := ?_) (a' := ?_) (ba 50 15) rfl rfl (any_of HT_.out (by kernel_rfl)) (fun _ _ _ h => h) (Or.inl ⟨by rfl, ?_⟩) ?_ ?_
                    rotate_left
                    ·intro w'
                     go_simp
                     with_reducible rfl
                    rotate_left
                    ·simp only [Act.put, sA, sB, sC, i64_w, i32_w]
                     rfl
                    refine pure_ (i := 4) (N := some 69) (v := ?_) (a' := ?_) (ba 50 31) rfl rfl (any_of HT_.out (by kernel_rfl)) (fun _ _ _ h => h) (Or.inl ⟨by rfl, ?_⟩) ?_ ?_
                    rotate_left
                    ·intro w'
                     go_simp
                     with_reducible rfl
                    rotate_left
                    ·simp only [Act.put, sA, sB, sC, i64_w, i32_w]
                     rfl
                    refine take_ (i := 5) (N := some 70) (v := ?_) (a' := ?_) (ba 50 63) rfl rfl (take_ofW HT_.out HW_.out (by kernel_rfl)) (fun _ _ _ h => h) (Or.inl ⟨by rfl, ?_⟩) hHeld ?_ ?_
                    rotate_left
                    ·rintro w' ⟨s0, s1, s2, s3⟩
                     go_simp
                     with_reducible rfl
                    rotate_left
                    ·simp only [Act.put, sA, sB, sC, i64_w, i32_w]
                     rfl
                    refine pure_ (i := 6) (N := some 71) (v := ?_) (a' := ?_) (ba 50 127) rfl rfl (any_of HT_.out (by kernel_rfl)) (fun _ _ _ h => h) (Or.inl ⟨by rfl, ?_⟩) ?_ ?_
                    rotate_left
                    ·intro w'
                     go_simp
                     with_reducible rfl
                    rotate_left
                    ·simp only [Act.put, sA, sB, sC, i64_w, i32_w]
                     rfl
                    refine pure_ (i := 7) (N := some 72) (v := ?_) (a' := ?_) (ba 50 255) rfl rfl (any_of HT_.out (by kernel_rfl)) (fun _ _ _ h => h) (Or.inl ⟨by rfl, ?_⟩) ?_ ?_
                    rotate_left
                    ·intro w'
                     go_simp
                     with_reducible rfl
                    rotate_left
                    ·simp only [Act.put, sA, sB, sC, i64_w, i32_w]
                     rfl
                    refine pure_ (i := 8) (N := some 73) (v := ?_) (a' := ?_) (ba 50 511) rfl rfl (any_of HT_.out (by kernel_rfl)) (fun _ _ _ h => h) (Or.inl ⟨by rfl, ?_⟩) ?_ ?_
                    rotate_left
                    ·intro w'
                     go_simp
                     with_reducible rfl
                    rotate_left
                    ·simp only [Act.put, sA, sB, sC, i64_w, i32_w]
                     rfl
                    refine pure_ (i := 9) (N := some 74) (v := undef) (a' := ?_) (ba 50 1023) rfl rfl (any_of HT_.out (by kernel_rfl)) (fun _ _ _ h => h) (Or.inr ⟨by rfl, rfl⟩) ?_ ?_
                    rotate_left
                    ·simp only [Act.put, sA, sB, sC, i64_w, i32_w]
                     rfl
                    refine pure_ (i := 10) (N := some 75) (v := undef) (a' := ?_) (ba 50 2047) rfl rfl (any_of HT_.out (by kernel_rfl)) (fun _ _ _ h => h) (Or.inr ⟨by rfl, rfl⟩) ?_ ?_
                    rotate_left
                    ·simp only [Act.put, sA, sB, sC, i64_w, i32_w]
                     rfl
                    refine pure_ (i := 11) (N := some 76) (v := undef) (a' := ?_) (ba 50 4095) rfl rfl (any_of HT_.out (by kernel_rfl)) (fun _ _ _ h => h) (Or.inr ⟨by rfl, rfl⟩) ?_ ?_
                    rotate_left
                    ·simp only [Act.put, sA, sB, sC, i64_w, i32_w]
                     rfl
                    refine pure_ (i := 12) (N := some 77) (v := undef) (a' := ?_) (ba 50 8191) rfl rfl (any_of HT_.out (by kernel_rfl)) (fun _ _ _ h => h) (Or.inr ⟨by rfl, rfl⟩) ?_ ?_
                    rotate_left
                    ·simp only [Act.put, sA, sB, sC, i64_w, i32_w]
                     rfl
                    refine pure_ (i := 13) (N := some 78) (v := undef) (a' := ?_) (ba 50 16383) rfl rfl (any_of HT_.out (by kernel_rfl)) (fun _ _ _ h => h) (Or.inr ⟨by rfl, rfl⟩) ?_ ?_
                    rotate_left
                    ·simp only [Act.put, sA, sB, sC, i64_w, i32_w]
                     rfl
                    refine pure_ (i := 14) (N := some 79) (v := undef) (a' := ?_) (ba 50 32767) rfl rfl (any_of HT_.out (by kernel_rfl)) (fun _ _ _ h => h) (Or.inr ⟨by rfl, rfl⟩) ?_ ?_
                    rotate_left
                    ·simp only [Act.put, sA, sB, sC, i64_w, i32_w]
                     rfl
                    refine pure_ (i := 15) (N := some 80) (v := undef) (a' := ?_) (ba 50 65535) rfl rfl (any_of HT_.out (by kernel_rfl)) (fun _ _ _ h => h) (Or.inr ⟨by rfl, rfl⟩) ?_ ?_
                    rotate_left
                    ·simp only [Act.put, sA, sB, sC, i64_w, i32_w]
                     rfl
                    refine pure_ (i := 16) (N := some 81) (v := undef) (a' := ?_) (ba 50 131071) rfl rfl (any_of HT_.out (by kernel_rfl)) (fun _ _ _ h => h) (Or.inr ⟨by rfl, rfl⟩) ?_ ?_
                    rotate_left
                    ·simp only [Act.put, sA, sB, sC, i64_w, i32_w]
                     rfl
                    refine pure_ (i := 17) (N := some 82) (v := ?_) (a' := ?_) (ba 50 262143) rfl rfl (any_of HT_.out (by kernel_rfl)) (fun _ _ _ h => h) (Or.inl ⟨by rfl, ?_⟩) ?_ ?_
                    rotate_left
                    ·intro w'
                     go_simp
                     with_reducible rfl
                    rotate_left
                    ·simp only [Act.put, sA, sB, sC, i64_w, i32_w]
                     rfl
                    refine pure_ (i := 18) (N := some 83) (v := ?_) (a' := ?_) (ba 50 524287) rfl rfl (any_of HT_.out (by kernel_rfl)) (fun _ _ _ h => h) (Or.inl ⟨by rfl, ?_⟩) ?_ ?_
                    rotate_left
                    ·intro w'
                     go_simp
                     with_reducible rfl
                    rotate_left
                    ·simp only [Act.put, sA, sB, sC, i64_w, i32_w]
                     rfl
                    refine pure_ (i := 19) (N := some 84) (v := undef) (a' := ?_) (ba 50 1048575) rfl rfl (any_of HT_.out (by kernel_rfl)) (fun _ _ _ h => h) (Or.inr ⟨by rfl, rfl⟩) ?_ ?_
                    rotate_left
                    ·simp only [Act.put, sA, sB, sC, i64_w, i32_w]
                     rfl
                    refine pure_ (i := 20) (N := some 85) (v := undef) (a' := ?_) (ba 50 2097151) rfl rfl (any_of HT_.out (by kernel_rfl)) (fun _ _ _ h => h) (Or.inr ⟨by rfl, rfl⟩) ?_ ?_
                    rotate_left
                    ·simp only [Act.put, sA, sB, sC, i64_w, i32_w]
                     rfl
                    refine pure_ (i := 21) (N := some 86) (v := undef) (a' := ?_) (ba 50 4194303) rfl rfl (any_of HT_.out (by kernel_rfl)) (fun _ _ _ h => h) (Or.inr ⟨by rfl, rfl⟩) ?_ ?_
                    rotate_left
                    ·simp only [Act.put, sA, sB, sC, i64_w, i32_w]
                     rfl
                    refine pure_ (i := 22) (N := some 87) (v := undef) (a' := ?_) (ba 50 8388607) rfl rfl (any_of HT_.out (by kernel_rfl)) (fun _ _ _ h => h) (Or.inr ⟨by rfl, rfl⟩) ?_ ?_
                    rotate_left
                    ·simp only [Act.put, sA, sB, sC, i64_w, i32_w]
                     rfl
                    refine pure_ (i := 23) (N := some 88) (v := undef) (a' := ?_) (ba 50 16777215) rfl rfl (any_of HT_.out (by kernel_rfl)) (fun _ _ _ h => h) (Or.inr ⟨by rfl, rfl⟩) ?_ ?_
                    rotate_left
                    ·simp only [Act.put, sA, sB, sC, i64_w, i32_w]
                     rfl
                    refine pure_ (i := 24) (N := some 89) (v := undef) (a' := ?_) (ba 50 33554431) rfl rfl (any_of HT_.out (by kernel_rfl)) (fun _ _ _ h => h) (Or.inr ⟨by rfl, rfl⟩) ?_ ?_
                    rotate_left
                    ·simp only [Act.put, sA, sB, sC, i64_w, i32_w]
                     rfl
                    refine pure_ (i := 25) (N := some 90) (v := undef) (a' := ?_) (ba 50 67108863) rfl rfl (any_of HT_.out (by kernel_rfl)) (fun _ _ _ h => h) (Or.inr ⟨by rfl, rfl⟩) ?_ ?_
                    rotate_left
                    ·simp only [Act.put, sA, sB, sC, i64_w, i32_w]
                     rfl
                    refine pure_ (i := 26) (N := some 91) (v := undef) (a' := ?_) (ba 50 134217727) rfl rfl (any_of HT_.out (by kernel_rfl)) (fun _ _ _ h => h) (Or.inr ⟨by rfl, rfl⟩) ?_ ?_
                    rotate_left
                    ·simp only [Act.put, sA, sB, sC, i64_w, i32_w]
                     rfl
                    refine pure_ (i := 27) (N := some 92) (v := undef) (a' := ?_) (ba 50 268435455) rfl rfl (any_of HT_.out (by kernel_rfl)) (fun _ _ _ h => h) (Or.inr ⟨by rfl, rfl⟩) ?_ ?_
                    rotate_left
                    ·simp only [Act.put, sA, sB, sC, i64_w, i32_w]
                     rfl
                    refine pure_ (i := 28) (N := some 93) (v := undef) (a' := ?_) (ba 50 536870911) rfl rfl (any_of HT_.out (by kernel_rfl)) (fun _ _ _ h => h) (Or.inr ⟨by rfl, rfl⟩) ?_ ?_
                    rotate_left
                    ·simp only [Act.put, sA, sB, sC, i64_w, i32_w]
                     rfl
                    refine pure_ (i := 29) (N := some 94) (v := ?_) (a' := ?_) (ba 50 1073741823) rfl rfl (any_of HT_.out (by kernel_rfl)) (fun _ _ _ h => h) (Or.inl ⟨by rfl, ?_⟩) ?_ ?_
                    rotate_left
                    ·intro w'
                     go_simp
                     with_reducible rfl
                    rotate_left
                    ·simp only [Act.put, sA, sB, sC, i64_w, i32_w]
                     rfl
                    refine pure_ (i := 30) (N := some 95) (v := ?_) (a' := ?_) (ba 50 2147483647) rfl rfl (any_of HT_.out (by kernel_rfl)) (fun _ _ _ h => h) (Or.inl ⟨by rfl, ?_⟩) ?_ ?_
                    rotate_left
                    ·intro w'
                     go_simp
                     with_reducible rfl
                    rotate_left
                    ·simp only [Act.put, sA, sB, sC, i64_w, i32_w]
                     rfl
                    refine pure_ (i := 31) (N := some 96) (v := undef) (a' := ?_) (ba 50 4294967295) rfl rfl (any_of HT_.out (by kernel_rfl)) (fun _ _ _ h => h) (Or.inr ⟨by rfl, rfl⟩) ?_ ?_
                    rotate_left
                    ·simp only [Act.put, sA, sB, sC, i64_w, i32_w]
                     rfl
                    refine pure_ (i := 32) (N := some 97) (v := undef) (a' := ?_) (ba 50 8589934591) rfl rfl (any_of HT_.out (by kernel_rfl)) (fun _ _ _ h => h) (Or.inr ⟨by rfl, rfl⟩) ?_ ?_
                    rotate_left
                    ·simp only [Act.put, sA, sB, sC, i64_w, i32_w]
                     rfl
                    refine pure_ (i := 33) (N := some 98) (v := undef) (a' := ?_) (ba 50 17179869183) rfl rfl (any_of HT_.out (by kernel_rfl)) (fun _ _ _ h => h) (Or.inr ⟨by rfl, rfl⟩) ?_ ?_
                    rotate_left
                    ·simp only [Act.put, sA, sB, sC, i64_w, i32_w]
                     rfl
                    refine pure_ (i := 34) (N := some 99) (v := undef) (a' := ?_) (ba 50 34359738367) rfl rfl (any_of HT_.out (by kernel_rfl)) (fun _ _ _ h => h) (Or.inr ⟨by rfl, rfl⟩) ?_ ?_
                    rotate_left
                    ·simp only [Act.put, sA, sB, sC, i64_w, i32_w]
                     rfl
                    refine pure_ (i := 35) (N := some 100) (v := undef) (a' := ?_) (ba 50 68719476735) rfl rfl (any_of HT_.out (by kernel_rfl)) (fun _ _ _ h => h) (Or.inr ⟨by rfl, rfl⟩) ?_ ?_
                    rotate_left
                    ·simp only [Act.put, sA, sB, sC, i64_w, i32_w]
                     rfl
                    refine pure_ (i := 36) (N := some 101) (v := undef) (a' := ?_) (ba 50 137438953471) rfl rfl (any_of HT_.out (by kernel_rfl)) (fun _ _ _ h => h) (Or.inr ⟨by rfl, rfl⟩) ?_ ?_
                    rotate_left
                    ·simp only [Act.put, sA, sB, sC, i64_w, i32_w]
                     rfl
                    refine pure_ (i := 37) (N := some 102) (v := undef) (a' := ?_) (ba 50 274877906943) rfl rfl (any_of HT_.out (by kernel_rfl)) (fun _ _ _ h => h) (Or.inr ⟨by rfl, rfl⟩) ?_ ?_
                    rotate_left
                    ·simp only [Act.put, sA, sB, sC, i64_w, i32_w]
                     rfl
                    refine pure_ (i := 38) (N := some 103) (v := undef) (a' := ?_) (ba 50 549755813887) rfl rfl (any_of HT_.out (by kernel_rfl)) (fun _ _ _ h => h) (Or.inr ⟨by rfl, rfl⟩) ?_ ?_
                    rotate_left
                    ·simp only [Act.put, sA, sB, sC, i64_w, i32_w]
                     rfl
                    refine pure_ (i := 39) (N := some 104) (v := undef) (a' := ?_) (ba 50 1099511627775) rfl rfl (any_of HT_.out (by kernel_rfl)) (fun _ _ _ h => h) (Or.inr ⟨by rfl, rfl⟩) ?_ ?_
                    rotate_left
                    ·simp only [Act.put, sA, sB, sC, i64_w, i32_w]
                     rfl
                    refine pure_ (i := 40) (N := some 105) (v := undef) (a' := ?_) (ba 50 2199023255551) rfl rfl (any_of HT_.out (by kernel_rfl)) (fun _ _ _ h => h) (Or.inr ⟨by rfl, rfl⟩) ?_ ?_
                    rotate_left
                    ·simp only [Act.put, sA, sB, sC, i64_w, i32_w]
                     rfl
                    refine pure_ (i := 41) (N := some 106) (v := undef) (a' := ?_) (ba 50 4398046511103) rfl rfl (any_of HT_.out (by kernel_rfl)) (fun _ _ _ h => h) (Or.inr ⟨by rfl, rfl⟩) ?_ ?_
                    rotate_left
                    ·simp only [Act.put, sA, sB, sC, i64_w, i32_w]
                     rfl
                    refine pure_ (i := 42) (N := some 107) (v := undef) (a' := ?_) (ba 50 8796093022207) rfl rfl (any_of HT_.out (by kernel_rfl)) (fun _ _ _ h => h) (Or.inr ⟨by rfl, rfl⟩) ?_ ?_
                    rotate_left
                    ·simp only [Act.put, sA, sB, sC, i64_w, i32_w]
                     rfl
                    refine pure_ (i := 43) (N := some 108) (v := undef) (a' := ?_) (ba 50 17592186044415) rfl rfl (any_of HT_.out (by kernel_rfl)) (fun _ _ _ h => h) (Or.inr ⟨by rfl, rfl⟩) ?_ ?_
                    rotate_left
                    ·simp only [Act.put, sA, sB, sC, i64_w, i32_w]
                     rfl
                    refine pure_ (i := 44) (N := some 109) (v := undef) (a' := ?_) (ba 50 35184372088831) rfl rfl (any_of HT_.out (by kernel_rfl)) (fun _ _ _ h => h) (Or.inr ⟨by rfl, rfl⟩) ?_ ?_
                    rotate_left
                    ·simp only [Act.put, sA, sB, sC, i64_w, i32_w]
                     rfl
                    refine pure_ (i := 45) (N := some 110) (v := undef) (a' := ?_) (ba 50 70368744177663) rfl rfl (any_of HT_.out (by kernel_rfl)) (fun _ _ _ h => h) (Or.inr ⟨by rfl, rfl⟩) ?_ ?_
                    rotate_left
                    ·simp only [Act.put, sA, sB, sC, i64_w, i32_w]
                     rfl
                    refine pure_ (i := 46) (N := some 111) (v := undef) (a' := ?_) (ba 50 140737488355327) rfl rfl (any_of HT_.out (by kernel_rfl)) (fun _ _ _ h => h) (Or.inr ⟨by rfl, rfl⟩) ?_ ?_
                    rotate_left
                    ·simp only [Act.put, sA, sB, sC, i64_w, i32_w]
                     rfl
                    refine pure_ (i := 47) (N := some 112) (v := undef) (a' := ?_) (ba 50 281474976710655) rfl rfl (any_of HT_.out (by kernel_rfl)) (fun _ _ _ h => h) (Or.inr ⟨by rfl, rfl⟩) ?_ ?_
                    rotate_left
                    ·simp only [Act.put, sA, sB, sC, i64_w, i32_w]
                     rfl
                    refine pure_ (i := 48) (N := some 113) (v := ?_) (a' := ?_) (ba 50 562949953421311) rfl rfl (any_of HT_.out (by kernel_rfl)) (fun _ _ _ h => h) (Or.inl ⟨by rfl, ?_⟩) ?_ ?_
                    rotate_left
                    ·intro w'
                     go_simp
                     with_reducible rfl
                    rotate_left
                    ·simp only [Act.put, sA, sB, sC, i64_w, i32_w]
                     rfl
                    refine pure_ (i := 49) (N := some 11) (v := ?_) (a' := ?_) (ba 50 1125899906842623) rfl rfl (any_of HT_.out (by kernel_rfl)) (fun _ _ _ h => h) (Or.inl ⟨by rfl, ?_⟩) ?_ ?_
                    rotate_left
                    ·intro w'
                     go_simp
                     with_reducible rfl
                    rotate_left
                    ·simp only [Act.put, sA, sB, sC, i64_w, i32_w]
                     rfl
                    refine done_ (done_of HT_.out (by kernel_rfl)) ?_
                    try go_wp2
                    go_meet
                    case rel => exact ⟨_, (false), (by first | rfl | (simp; done) | (simp [*]; done)), H', ⟨by have := HJ6.out; have := HK2.out; have := HK3.out; have := HJ19.out; first | omega | exact Nat.le_refl _⟩, ⟨by (with_reducible repeat (first | apply Kd.N_alloc | apply Kd.N_drewN | apply Kd.N_drew)); exact HO_5.out⟩, ⟨by (with_reducible repeat (first | apply rA | apply rN | apply rD)); exact HO_6.out⟩, ⟨by (with_reducible repeat (first | refine kN ?_ _ | refine kD ?_ | refine kA ?_ _)); exact BK345.out⟩, ⟨bl⟩⟩
                  ·rw [if_neg c34] at H
                   exact absurd H (by simp)
                 case rest =>
                  clear HC31
                  try clear p2
                  try clear c3
                  try clear p3
                  try clear q3
                  try clear hx3
                  try clear c34
                  try clear p34
                  try clear q34
                  try clear hx34
                  try clear c35
                  try clear c35b0
                  try clear hx346_0
                  try clear hx346_1
                  try clear hx346_2
                  try clear hx346_3
                  try clear p346
                  try clear q346
                  obtain ⟨kq, x11_30, rfl, HA, HJ30, HO_5, HO_6, BK345, HB⟩ := hcut
                  cases kq with
                  | zero => exact absurd HA.out (by simp [mapmakerlaw26_GeneralizeKeeps.j4])
                  | succ kj30 =>
                   have H := HA.out
                   clear HA
                   simp only [mapmakerlaw26_GeneralizeKeeps.j4] at H
                   by_cases c52 : x11_30 = true
                   ·subst c52
                    have H1 : (mapmakerlaw26_GeneralizeKeeps.l1 kj30 l0 t329 t332 x7_2 (wrap64 (x8_3 + 1)) (wrap64 (x9_3 + 1))) = some r := by rw [if_pos rfl] at H; exact H
                    clear H
                    have H := H1
                    clear H1
                    have H' := aM H
                    clear H
                    go_wp2
                    go_roundg kj30
                    case measure => have := HJ6.out; have := HK2.out; have := HK3.out; have := HJ19.out; have := HJ30.out; omega
                    case rel => exact ⟨(wrap64 (x8_3 + 1)), (wrap64 (x9_3 + 1)), (by first | rfl | (simp; done) | (simp [*]; done)), (by first | rfl | (simp; done) | (simp [*]; done)), H', ⟨by have := HJ6.out; have := HK2.out; have := HK3.out; have := HJ19.out; have := HJ30.out; omega⟩, ⟨by (with_reducible repeat (first | apply Kd.N_alloc | apply Kd.N_drewN | apply Kd.N_drew)); exact Kd.N_mono HO_5.out (fun _ hk => hk.1)⟩, ⟨by (with_reducible repeat (first | apply rA | apply rN | apply rD)); exact rM HO_6.out (fun _ hk => trivial)⟩, ⟨bl⟩⟩
                   ·replace c52 := Bool.eq_false_iff.mpr c52
                    subst c52
                    have H1 : ((mapmakerref26_Has.f kj30 t332 ((rd_T40 ((rd_T31 l0 x7_2).f1) x9_3).f0) ((rd_T40 ((rd_T31 l0 x7_2).f1) x9_3).f1)).bind fun t354 => (if t354 = true then (some false) else (mapmakerlaw26_GeneralizeKeeps.l1 kj30 l0 t329 t332 x7_2 x8_3 (wrap64 (x9_3 + 1))))) = some r := by rw [if_neg (show ¬ (false = true) by decide)] at H; exact H
                    clear H
                    have H := H1
                    clear H1
                    replace H := Option.bind_eq_some_iff.mp H
                    obtain ⟨t354, A530, H⟩ := H
                    try dsimp only at H
                    have A53 := aM A530
                    clear A530
                    by_cases c54 : t354 = true
                    ·subst c54
                     have H1 : (some false) = some r := by rw [if_pos rfl] at H; exact H
                     clear H
                     have H := H1
                     clear H1
                     obtain rfl := Option.some.inj H
                     cases hT
                    ·replace c54 := Bool.eq_false_iff.mpr c54
                     subst c54
                     have H1 : (mapmakerlaw26_GeneralizeKeeps.l1 kj30 l0 t329 t332 x7_2 x8_3 (wrap64 (x9_3 + 1))) = some r := by rw [if_neg (show ¬ (false = true) by decide)] at H; exact H
                     clear H
                     have H := H1
                     clear H1
                     have H' := aM H
                     clear H
                     have hcz58_0 : wc.cell? ⟨gb345, 0, none⟩ = some (.int .i64 ((rd_T40 ((rd_T31 l0 x7_2).f1) x9_3).f0)) := (kC BK345.out 0).trans rfl
                     have hcz58_1 : wc.cell? ⟨gb345, 1, none⟩ = some (.int .i64 ((rd_T40 ((rd_T31 l0 x7_2).f1) x9_3).f1)) := (kC BK345.out 1).trans rfl
                     have hfz58_0 := kF BK345.out 0
                     have hfz58_1 := kF BK345.out 1
                     obtain ⟨Ao59, co59, eo59⟩ := Kd.R_slice HO_6.out
                     subst eo59
                     go_wp2_with (first | ((with_reducible refine gate_callee (f := 19) rfl ?_); refine goesL_ (some 119) rfl rfl Try.func19 (by kernel_rfl) rfl #[.slice Ao59 t332.length co59, .agg #[.int .i64 ((rd_T40 ((rd_T31 l0 x7_2).f1) x9_3).f0), .int .i64 ((rd_T40 ((rd_T31 l0 x7_2).f1) x9_3).f1)]] rfl (by (try simp only [List.map_toArray, List.map_cons, List.map_nil]); first | done | rfl | (simp only [List.length_drop, List.length_take]; rfl)) ?_; (with_reducible refine (mapmakerref26_Has.calls kj30 _ _ t332 ((rd_T40 ((rd_T31 l0 x7_2).f1) x9_3).f0) ((rd_T40 ((rd_T31 l0 x7_2).f1) x9_3).f1) false _ ?side1 ?side2 A53.out).mono ?_); (case side1 => repeat (first | exact (rR HO_6.out).2.2 | (with_reducible refine cA ?_ _) | (with_reducible refine cN ?_ _) | (with_reducible refine cD ?_))); (case side2 => exact (rR HO_6.out).2.1); rintro e w60 ⟨rfl, hb⟩; refine ⟨_, rfl, ?_⟩; replace HO_5 := aM (Kd.N_below (by (with_reducible repeat (first | apply Kd.N_alloc | apply Kd.N_drewN | apply Kd.N_drew)); exact HO_5.out) hb); replace HO_6 := aM (rB (rl HO_6) hb); replace BK345 := aM (kB (g := gb345) (o := .cells #[.int .i64 ((rd_T40 ((rd_T31 l0 x7_2).f1) x9_3).f0), .int .i64 ((rd_T40 ((rd_T31 l0 x7_2).f1) x9_3).f1)] 40 (0, 0)) (kl BK345) hb); replace HB := aM (bS (bl) hb); (try clear hb); (try clear hb2); (try clear hk); (try clear hi)))
                     go_roundg kj30
                     case measure => have := HJ6.out; have := HK2.out; have := HK3.out; have := HJ19.out; have := HJ30.out; omega
                     case rel => exact ⟨(x8_3), (wrap64 (x9_3 + 1)), (by first | rfl | (simp; done) | (simp [*]; done)), (by first | rfl | (simp; done) | (simp [*]; done)), H', ⟨by have := HJ6.out; have := HK2.out; have := HK3.out; have := HJ19.out; have := HJ30.out; omega⟩, ⟨by (with_reducible repeat (first | apply Kd.N_alloc | apply Kd.N_drewN | apply Kd.N_drew)); exact Kd.N_mono HO_5.out (fun _ hk => hk.1)⟩, ⟨by (with_reducible repeat (first | apply rA | apply rN | apply rD)); exact rM HO_6.out (fun _ hk => trivial)⟩, ⟨bl⟩⟩
                ·rw [if_neg c30] at H
                 exact absurd H (by simp)
               ·rw [if_neg c29] at H
                exact absurd H (by simp)
              ·rw [if_neg c28] at H
               exact absurd H (by simp)
             ·rw [if_neg c27] at H
              exact absurd H (by simp)
            ·as_aux_lemma =>
             replace c26 := Bool.eq_false_iff.mpr c26
             subst c26
             have H1 : (if 0 ≤ x7_2 then (if x7_2 < (l0.length : Int) then ((mapmakerref26_Good.f kj19 ((rd_T31 l0 x7_2).f0) ((rd_T31 l0 x7_2).f1) ((rd_T31 l0 x7_2).f2) ((rd_T31 l0 x7_2).f3)).bind fun t356 => (if t356 = true then (if x7_2 < (t329.length : Int) then (if x8_3 = (((rd_T31 t329 x7_2).f1).length : Int) then ((mapmakerref26_Good.f kj19 ((rd_T31 l0 x7_2).f0) ((rd_T31 l0 x7_2).f1) ((rd_T31 l0 x7_2).f2) ((rd_T31 l0 x7_2).f3)).bind fun t359 => (if t359 = true then (if ((rd_T31 t329 x7_2).f0) = ((rd_T31 l0 x7_2).f0) then (mapmakerlaw26_GeneralizeKeeps.l0 kj19 l0 t329 t332 (wrap64 (x7_2 + 1))) else (some false)) else (none))) else (some false)) else (none)) else ((mapmakerref26_Good.f kj19 ((rd_T31 l0 x7_2).f0) ((rd_T31 l0 x7_2).f1) ((rd_T31 l0 x7_2).f2) ((rd_T31 l0 x7_2).f3)).bind fun t368 => (if t368 = true then (none) else (if x7_2 < (t329.length : Int) then ((mapmakerlaw26_same.f kj19 ((rd_T31 t329 x7_2).f0) ((rd_T31 t329 x7_2).f1) ((rd_T31 t329 x7_2).f2) ((rd_T31 t329 x7_2).f3) ((rd_T31 l0 x7_2).f0) ((rd_T31 l0 x7_2).f1) ((rd_T31 l0 x7_2).f2) ((rd_T31 l0 x7_2).f3)).bind fun t373 => (if t373 = true then (if ((rd_T31 t329 x7_2).f0) = ((rd_T31 l0 x7_2).f0) then (mapmakerlaw26_GeneralizeKeeps.l0 kj19 l0 t329 t332 (wrap64 (x7_2 + 1))) else (some false)) else (some false))) else (none)))))) else (none)) else (none)) = some r := by rw [if_neg (show ¬ (false = true) by decide)] at H; exact H
             clear H
             have H := H1
             clear H1
             by_cases c61 : 0 ≤ x7_2
             ·rw [if_pos c61] at H
              have c61b0 : decide (0 ≤ x7_2) = true := decide_eq_true c61
              clear c61
              by_cases c62 : x7_2 < (l0.length : Int)
              ·rw [if_pos c62] at H
               have c62b0 : decide (x7_2 < (l0.length : Int)) = true := decide_eq_true c62
               clear c62
               replace H := Option.bind_eq_some_iff.mp H
               obtain ⟨t356, A630, H⟩ := H
               try dsimp only at H
               have A63 := aM A630
               clear A630
               by_cases c64 : t356 = true
               ·subst c64
                have H1 : (if x7_2 < (t329.length : Int) then (if x8_3 = (((rd_T31 t329 x7_2).f1).length : Int) then ((mapmakerref26_Good.f kj19 ((rd_T31 l0 x7_2).f0) ((rd_T31 l0 x7_2).f1) ((rd_T31 l0 x7_2).f2) ((rd_T31 l0 x7_2).f3)).bind fun t359 => (if t359 = true then (if ((rd_T31 t329 x7_2).f0) = ((rd_T31 l0 x7_2).f0) then (mapmakerlaw26_GeneralizeKeeps.l0 kj19 l0 t329 t332 (wrap64 (x7_2 + 1))) else (some false)) else (none))) else (some false)) else (none)) = some r := by rw [if_pos rfl] at H; exact H
                clear H
                have H := H1
                clear H1
                by_cases c65 : x7_2 < (t329.length : Int)
                ·rw [if_pos c65] at H
                 have c65b0 : decide (x7_2 < (t329.length : Int)) = true := decide_eq_true c65
                 clear c65
                 by_cases c66 : x8_3 = (((rd_T31 t329 x7_2).f1).length : Int)
                 ·rw [if_pos c66] at H
                  have c66b0 : (x8_3 == (((rd_T31 t329 x7_2).f1).length : Int)) = true := beq_iff_eq.mpr c66
                  have c66b1 : (x8_3 != (((rd_T31 t329 x7_2).f1).length : Int)) = false := bne_eq_false_iff_eq.mpr c66
                  clear c66
                  replace H := Option.bind_eq_some_iff.mp H
                  obtain ⟨t359, A670, H⟩ := H
                  try dsimp only at H
                  have A67 := aM A670
                  clear A670
                  by_cases c68 : t359 = true
                  ·subst c68
                   have H1 : (if ((rd_T31 t329 x7_2).f0) = ((rd_T31 l0 x7_2).f0) then (mapmakerlaw26_GeneralizeKeeps.l0 kj19 l0 t329 t332 (wrap64 (x7_2 + 1))) else (some false)) = some r := by rw [if_pos rfl] at H; exact H
                   clear H
                   have H := H1
                   clear H1
                   by_cases c69 : ((rd_T31 t329 x7_2).f0) = ((rd_T31 l0 x7_2).f0)
                   ·as_aux_lemma =>
                    rw [if_pos c69] at H
                    have c69b0 : (((rd_T31 t329 x7_2).f0) == ((rd_T31 l0 x7_2).f0)) = true := beq_iff_eq.mpr c69
                    have c69b1 : (((rd_T31 t329 x7_2).f0) != ((rd_T31 l0 x7_2).f0)) = false := bne_eq_false_iff_eq.mpr c69
                    clear c69
                    have H' := aM H
                    clear H
                    try go_wp2
                    replace HO_5 := aM (Kd.N_drew HO_5.out)
                    replace HO_6 := aM (rD HO_6.out)
                    replace HB := aM (bD HB.out)
                    have p355 : 0 ≤ (x7_2 : Int) := of_decide_eq_true (by first | (with_reducible assumption) | assumption)
                    have q355 : x7_2 < (l0.length : Int) := of_decide_eq_true (by first | (with_reducible assumption) | assumption)
                    obtain ⟨ad355, A355_1, c355_1, A355_2, c355_2, A355_3, c355_3, e355, hx355_0, hx355_1, hx355_2, hx355_3, hl355_1, hi355_1, hl355_2, hi355_2, hl355_3, hi355_3⟩ := at_T31 HR0.out x7_2 p355 q355
                    have hw355_3 := hx355_3
                    have hw355_2 := hx355_2
                    have hw355_1 := hx355_1
                    have hw355_0 := hx355_0
                    cases e355
                    replace hx355_0 := (HB.out.cell (World.block_lt_of_cell? w _ hx355_0)).trans hx355_0
                    replace hx355_1 := (HB.out.cell (World.block_lt_of_cell? w _ hx355_1)).trans hx355_1
                    replace hx355_2 := (HB.out.cell (World.block_lt_of_cell? w _ hx355_2)).trans hx355_2
                    replace hx355_3 := (HB.out.cell (World.block_lt_of_cell? w _ hx355_3)).trans hx355_3
                    have HR355_1 := aM hi355_1
                    have HC355_1 := aM hl355_1
                    clear hi355_1 hl355_1
                    have HR355_2 := aM hi355_2
                    have HC355_2 := aM hl355_2
                    clear hi355_2 hl355_2
                    have HR355_3 := aM hi355_3
                    have HC355_3 := aM hl355_3
                    clear hi355_3 hl355_3
                    replace p355 := eq_true p355
                    replace q355 := eq_true q355
                    have p357 : 0 ≤ (x7_2 : Int) := of_decide_eq_true (by first | (with_reducible assumption) | assumption)
                    have q357 : x7_2 < (t329.length : Int) := of_decide_eq_true (by first | (with_reducible assumption) | assumption)
                    obtain ⟨AoZ, coZ, eoZ⟩ := Kd.N_slice HO_5.out
                    subst eoZ
                    obtain ⟨ad357, A357_1, c357_1, A357_2, c357_2, A357_3, c357_3, e357, hx357_0, hx357_1, hx357_2, hx357_3, hl357_1, hi357_1, hl357_2, hi357_2, hl357_3, hi357_3⟩ := at_T31 (Kd.N_reads' HO_5.out).2.2 x7_2 p357 q357
                    cases e357
                    obtain ⟨ce357, hce357, hMe357, hcc357⟩ := Kd.N_get HO_5.out z31 x7_2 p357 (by first | exact q357 | exact of_decide_eq_true (by first | (with_reducible assumption) | assumption) | (have e_ := (Kd.N_reads' HO_5.out).1; omega))
                    obtain ⟨ua357_1, uc357_1, ua357_2, uc357_2, ua357_3, uc357_3, rfl, ul357_1, ge357_1, ul357_2, ge357_2, ul357_3, ge357_3⟩ := k31_openF hMe357
                    have hv357_1 := hcc357 1 _ rfl
                    rw [add_field _ _ 1 (by omega)] at hv357_1
                    replace hv357_1 := Option.some.inj (hv357_1.symm.trans hx357_1)
                    injection hv357_1 with hva_ hvn_ hvc_
                    rw [hva_] at ge357_1
                    rw [hvc_] at ul357_1
                    have HL357_1 := aM (show Kd.V k40 40 _ w.heap.size _ _ ((rd_T31 t329 x7_2).f1) from Kd.V_mk ul357_1 ge357_1)
                    clear hva_ hvn_ hvc_ ge357_1 ul357_1
                    have hv357_2 := hcc357 2 _ rfl
                    rw [add_field _ _ 2 (by omega)] at hv357_2
                    replace hv357_2 := Option.some.inj (hv357_2.symm.trans hx357_2)
                    injection hv357_2 with hva_ hvn_ hvc_
                    rw [hva_] at ge357_2
                    rw [hvc_] at ul357_2
                    have HL357_2 := aM (show Kd.V (Kd.int .i64) 3 _ w.heap.size _ _ ((rd_T31 t329 x7_2).f2) from Kd.V_mk ul357_2 ge357_2)
                    clear hva_ hvn_ hvc_ ge357_2 ul357_2
                    have hv357_3 := hcc357 3 _ rfl
                    rw [add_field _ _ 3 (by omega)] at hv357_3
                    replace hv357_3 := Option.some.inj (hv357_3.symm.trans hx357_3)
                    injection hv357_3 with hva_ hvn_ hvc_
                    rw [hva_] at ge357_3
                    rw [hvc_] at ul357_3
                    have HL357_3 := aM (show Kd.V k80 80 _ w.heap.size _ _ ((rd_T31 t329 x7_2).f3) from Kd.V_mk ul357_3 ge357_3)
                    clear hva_ hvn_ hvc_ ge357_3 ul357_3 hcc357 hce357
                    have HR357_1 := aM hi357_1
                    have HC357_1 := aM hl357_1
                    clear hi357_1 hl357_1
                    have HR357_2 := aM hi357_2
                    have HC357_2 := aM hl357_2
                    clear hi357_2 hl357_2
                    have HR357_3 := aM hi357_3
                    have HC357_3 := aM hl357_3
                    clear hi357_3 hl357_3
                    replace p357 := eq_true p357
                    replace q357 := eq_true q357
                    have p358 : 0 ≤ (x7_2 : Int) := of_decide_eq_true (by first | (with_reducible assumption) | assumption)
                    have q358 : x7_2 < (l0.length : Int) := of_decide_eq_true (by first | (with_reducible assumption) | assumption)
                    obtain ⟨ad358, A358_1, c358_1, A358_2, c358_2, A358_3, c358_3, e358, hx358_0, hx358_1, hx358_2, hx358_3, hl358_1, hi358_1, hl358_2, hi358_2, hl358_3, hi358_3⟩ := at_T31 HR0.out x7_2 p358 q358
                    have hw358_3 := hx358_3
                    have hw358_2 := hx358_2
                    have hw358_1 := hx358_1
                    have hw358_0 := hx358_0
                    obtain rfl : ad355 = ad358 := (by injection e358)
                    replace hx358_0 := (HB.out.cell (World.block_lt_of_cell? w _ hx358_0)).trans hx358_0
                    replace hx358_1 := (HB.out.cell (World.block_lt_of_cell? w _ hx358_1)).trans hx358_1
                    replace hx358_2 := (HB.out.cell (World.block_lt_of_cell? w _ hx358_2)).trans hx358_2
                    replace hx358_3 := (HB.out.cell (World.block_lt_of_cell? w _ hx358_3)).trans hx358_3
                    have HR358_1 := aM hi358_1
                    have HC358_1 := aM hl358_1
                    clear hi358_1 hl358_1
                    have HR358_2 := aM hi358_2
                    have HC358_2 := aM hl358_2
                    clear hi358_2 hl358_2
                    have HR358_3 := aM hi358_3
                    have HC358_3 := aM hl358_3
                    clear hi358_3 hl358_3
                    replace p358 := eq_true p358
                    replace q358 := eq_true q358
                    have p360 : 0 ≤ (x7_2 : Int) := of_decide_eq_true (by first | (with_reducible assumption) | assumption)
                    have q360 : x7_2 < (t329.length : Int) := of_decide_eq_true (by first | (with_reducible assumption) | assumption)
                    obtain ⟨ad360, A360_1, c360_1, A360_2, c360_2, A360_3, c360_3, e360, hx360_0, hx360_1, hx360_2, hx360_3, hl360_1, hi360_1, hl360_2, hi360_2, hl360_3, hi360_3⟩ := at_T31 (Kd.N_reads' HO_5.out).2.2 x7_2 p360 q360
                    obtain rfl : ad357 = ad360 := (by injection e360)
                    obtain ⟨ce360, hce360, hMe360, hcc360⟩ := Kd.N_get HO_5.out z31 x7_2 p360 (by first | exact q360 | exact of_decide_eq_true (by first | (with_reducible assumption) | assumption) | (have e_ := (Kd.N_reads' HO_5.out).1; omega))
                    obtain ⟨ua360_1, uc360_1, ua360_2, uc360_2, ua360_3, uc360_3, rfl, ul360_1, ge360_1, ul360_2, ge360_2, ul360_3, ge360_3⟩ := k31_openF hMe360
                    have hv360_1 := hcc360 1 _ rfl
                    rw [add_field _ _ 1 (by omega)] at hv360_1
                    replace hv360_1 := Option.some.inj (hv360_1.symm.trans hx360_1)
                    injection hv360_1 with hva_ hvn_ hvc_
                    rw [hva_] at ge360_1
                    rw [hvc_] at ul360_1
                    have HL360_1 := aM (show Kd.V k40 40 _ w.heap.size _ _ ((rd_T31 t329 x7_2).f1) from Kd.V_mk ul360_1 ge360_1)
                    clear hva_ hvn_ hvc_ ge360_1 ul360_1
                    have hv360_2 := hcc360 2 _ rfl
                    rw [add_field _ _ 2 (by omega)] at hv360_2
                    replace hv360_2 := Option.some.inj (hv360_2.symm.trans hx360_2)
                    injection hv360_2 with hva_ hvn_ hvc_
                    rw [hva_] at ge360_2
                    rw [hvc_] at ul360_2
                    have HL360_2 := aM (show Kd.V (Kd.int .i64) 3 _ w.heap.size _ _ ((rd_T31 t329 x7_2).f2) from Kd.V_mk ul360_2 ge360_2)
                    clear hva_ hvn_ hvc_ ge360_2 ul360_2
                    have hv360_3 := hcc360 3 _ rfl
                    rw [add_field _ _ 3 (by omega)] at hv360_3
                    replace hv360_3 := Option.some.inj (hv360_3.symm.trans hx360_3)
                    injection hv360_3 with hva_ hvn_ hvc_
                    rw [hva_] at ge360_3
                    rw [hvc_] at ul360_3
                    have HL360_3 := aM (show Kd.V k80 80 _ w.heap.size _ _ ((rd_T31 t329 x7_2).f3) from Kd.V_mk ul360_3 ge360_3)
                    clear hva_ hvn_ hvc_ ge360_3 ul360_3 hcc360 hce360
                    have HR360_1 := aM hi360_1
                    have HC360_1 := aM hl360_1
                    clear hi360_1 hl360_1
                    have HR360_2 := aM hi360_2
                    have HC360_2 := aM hl360_2
                    clear hi360_2 hl360_2
                    have HR360_3 := aM hi360_3
                    have HC360_3 := aM hl360_3
                    clear hi360_3 hl360_3
                    replace p360 := eq_true p360
                    replace q360 := eq_true q360
                    have p361 : 0 ≤ (x7_2 : Int) := of_decide_eq_true (by first | (with_reducible assumption) | assumption)
                    have q361 : x7_2 < (l0.length : Int) := of_decide_eq_true (by first | (with_reducible assumption) | assumption)
                    obtain ⟨ad361, A361_1, c361_1, A361_2, c361_2, A361_3, c361_3, e361, hx361_0, hx361_1, hx361_2, hx361_3, hl361_1, hi361_1, hl361_2, hi361_2, hl361_3, hi361_3⟩ := at_T31 HR0.out x7_2 p361 q361
                    have hw361_3 := hx361_3
                    have hw361_2 := hx361_2
                    have hw361_1 := hx361_1
                    have hw361_0 := hx361_0
                    obtain rfl : ad355 = ad361 := (by injection e361)
                    replace hx361_0 := (HB.out.cell (World.block_lt_of_cell? w _ hx361_0)).trans hx361_0
                    replace hx361_1 := (HB.out.cell (World.block_lt_of_cell? w _ hx361_1)).trans hx361_1
                    replace hx361_2 := (HB.out.cell (World.block_lt_of_cell? w _ hx361_2)).trans hx361_2
                    replace hx361_3 := (HB.out.cell (World.block_lt_of_cell? w _ hx361_3)).trans hx361_3
                    have HR361_1 := aM hi361_1
                    have HC361_1 := aM hl361_1
                    clear hi361_1 hl361_1
                    have HR361_2 := aM hi361_2
                    have HC361_2 := aM hl361_2
                    clear hi361_2 hl361_2
                    have HR361_3 := aM hi361_3
                    have HC361_3 := aM hl361_3
                    clear hi361_3 hl361_3
                    replace p361 := eq_true p361
                    replace q361 := eq_true q361
                    refine start_ (n := 48) (S := fun w' => w'.cell? (ad355.add ((x7_2).toNat * 4)) = some (.int .i64 ((rd_T31 l0 x7_2).f0)) ∧ w'.cell? ⟨(ad355.add ((x7_2).toNat * 4)).block, (ad355.add ((x7_2).toNat * 4)).off + 1, none⟩ = some (.slice A355_1 ((rd_T31 l0 x7_2).f1).length c355_1) ∧ w'.cell? ⟨(ad355.add ((x7_2).toNat * 4)).block, (ad355.add ((x7_2).toNat * 4)).off + 2, none⟩ = some (.slice A355_2 ((rd_T31 l0 x7_2).f2).length c355_2) ∧ w'.cell? ⟨(ad355.add ((x7_2).toNat * 4)).block, (ad355.add ((x7_2).toNat * 4)).off + 3, none⟩ = some (.slice A355_3 ((rd_T31 l0 x7_2).f3).length c355_3) ∧ w'.cell? (ad357.add ((x7_2).toNat * 4)) = some (.int .i64 ((rd_T31 t329 x7_2).f0)) ∧ w'.cell? ⟨(ad357.add ((x7_2).toNat * 4)).block, (ad357.add ((x7_2).toNat * 4)).off + 1, none⟩ = some (.slice A357_1 ((rd_T31 t329 x7_2).f1).length c357_1) ∧ w'.cell? ⟨(ad357.add ((x7_2).toNat * 4)).block, (ad357.add ((x7_2).toNat * 4)).off + 2, none⟩ = some (.slice A357_2 ((rd_T31 t329 x7_2).f2).length c357_2) ∧ w'.cell? ⟨(ad357.add ((x7_2).toNat * 4)).block, (ad357.add ((x7_2).toNat * 4)).off + 3, none⟩ = some (.slice A357_3 ((rd_T31 t329 x7_2).f3).length c357_3) ∧ w'.cell? (ad355.add ((x7_2).toNat * 4)) = some (.int .i64 ((rd_T31 l0 x7_2).f0)) ∧ w'.cell? ⟨(ad355.add ((x7_2).toNat * 4)).block, (ad355.add ((x7_2).toNat * 4)).off + 1, none⟩ = some (.slice A358_1 ((rd_T31 l0 x7_2).f1).length c358_1) ∧ w'.cell? ⟨(ad355.add ((x7_2).toNat * 4)).block, (ad355.add ((x7_2).toNat * 4)).off + 2, none⟩ = some (.slice A358_2 ((rd_T31 l0 x7_2).f2).length c358_2) ∧ w'.cell? ⟨(ad355.add ((x7_2).toNat * 4)).block, (ad355.add ((x7_2).toNat * 4)).off + 3, none⟩ = some (.slice A358_3 ((rd_T31 l0 x7_2).f3).length c358_3) ∧ w'.cell? (ad357.add ((x7_2).toNat * 4)) = some (.int .i64 ((rd_T31 t329 x7_2).f0)) ∧ w'.cell? ⟨(ad357.add ((x7_2).toNat * 4)).block, (ad357.add ((x7_2).toNat * 4)).off + 1, none⟩ = some (.slice A360_1 ((rd_T31 t329 x7_2).f1).length c360_1) ∧ w'.cell? ⟨(ad357.add ((x7_2).toNat * 4)).block, (ad357.add ((x7_2).toNat * 4)).off + 2, none⟩ = some (.slice A360_2 ((rd_T31 t329 x7_2).f2).length c360_2) ∧ w'.cell? ⟨(ad357.add ((x7_2).toNat * 4)).block, (ad357.add ((x7_2).toNat * 4)).off + 3, none⟩ = some (.slice A360_3 ((rd_T31 t329 x7_2).f3).length c360_3) ∧ w'.cell? (ad355.add ((x7_2).toNat * 4)) = some (.int .i64 ((rd_T31 l0 x7_2).f0)) ∧ w'.cell? ⟨(ad355.add ((x7_2).toNat * 4)).block, (ad355.add ((x7_2).toNat * 4)).off + 1, none⟩ = some (.slice A361_1 ((rd_T31 l0 x7_2).f1).length c361_1) ∧ w'.cell? ⟨(ad355.add ((x7_2).toNat * 4)).block, (ad355.add ((x7_2).toNat * 4)).off + 2, none⟩ = some (.slice A361_2 ((rd_T31 l0 x7_2).f2).length c361_2) ∧ w'.cell? ⟨(ad355.add ((x7_2).toNat * 4)).block, (ad355.add ((x7_2).toNat * 4)).off + 3, none⟩ = some (.slice A361_3 ((rd_T31 l0 x7_2).f3).length c361_3)) (ds := []) #[false, false, false, false, false, false, false, false, false, false, false, false, false, false, false, false, false, false, false, false, false, false, false, false, false, false, false, false, false, false, false, false, false, false, false, false, false, false, false, false, false, false, false, false, false, false, false, false] (by kernel_rfl) rfl rfl ⟨((HB.out.cell (World.block_lt_of_cell? w _ hw355_0)).trans hw355_0), ((HB.out.cell (World.block_lt_of_cell? w _ hw355_1)).trans hw355_1), ((HB.out.cell (World.block_lt_of_cell? w _ hw355_2)).trans hw355_2), ((HB.out.cell (World.block_lt_of_cell? w _ hw355_3)).trans hw355_3), hx357_0, hx357_1, hx357_2, hx357_3, ((HB.out.cell (World.block_lt_of_cell? w _ hw358_0)).trans hw358_0), ((HB.out.cell (World.block_lt_of_cell? w _ hw358_1)).trans hw358_1), ((HB.out.cell (World.block_lt_of_cell? w _ hw358_2)).trans hw358_2), ((HB.out.cell (World.block_lt_of_cell? w _ hw358_3)).trans hw358_3), hx360_0, hx360_1, hx360_2, hx360_3, ((HB.out.cell (World.block_lt_of_cell? w _ hw361_0)).trans hw361_0), ((HB.out.cell (World.block_lt_of_cell? w _ hw361_1)).trans hw361_1), ((HB.out.cell (World.block_lt_of_cell? w _ hw361_2)).trans hw361_2), ((HB.out.cell (World.block_lt_of_cell? w _ hw361_3)).trans hw361_3)⟩ (fun hHeld => ?_); refine with_tabW mapmakerlaw26_GeneralizeKeeps.tab19 mapmakerlaw26_GeneralizeKeeps.bits19 (fun HT_ HW_ => ?_)
                    generalize wc.drew = w70 at HO_5 HO_6 HB HL357_1 HL357_2 HL357_3 HL360_1 HL360_2 HL360_3 HR355_1 HR355_2 HR355_3 HR357_1 HR357_2 HR357_3 HR358_1 HR358_2 HR358_3 HR360_1 HR360_2 HR360_3 HR361_1 HR361_2 HR361_3 hx355_0 hx355_1 hx355_2 hx355_3 hx357_0 hx357_1 hx357_2 hx357_3 hx358_0 hx358_1 hx358_2 hx358_3 hx360_0 hx360_1 hx360_2 hx360_3 hx361_0 hx361_1 hx361_2 hx361_3 hHeld ⊢
                    refine pure_ (i := 0) (N := some 120) (v := ?_) (a' := ?_) (ba 48 1) rfl rfl (any_of HT_.out (by kernel_rfl)) (fun _ _ _ h => h) (Or.inl ⟨by rfl, ?_⟩) ?_ ?_
                    rotate_left
                    ·intro w'
                     go_simp
                     with_reducible rfl
                    rotate_left
                    ·simp only [Act.put, sA, sB, sC, i64_w, i32_w]
                     rfl
                    refine pure_ (i := 1) (N := some 121) (v := ?_) (a' := ?_) (ba 48 3) rfl rfl (any_of HT_.out (by kernel_rfl)) (fun _ _ _ h => h) (Or.inl ⟨by rfl, ?_⟩) ?_ ?_
                    rotate_left
                    ·intro w'
                     go_simp
                     with_reducible rfl
                    rotate_left
                    ·simp only [Act.put, sA, sB, sC, i64_w, i32_w]
                     rfl
                    refine pure_ (i := 2) (N := some 122) (v := ?_) (a' := ?_) (ba 48 7) rfl rfl (any_of HT_.out (by kernel_rfl)) (fun _ _ _ h => h) (Or.inl ⟨by rfl, ?_⟩) ?_ ?_
                    rotate_left
                    ·intro w'
                     go_simp
                     with_reducible rfl
                    rotate_left
                    ·simp only [Act.put, sA, sB, sC, i64_w, i32_w]
                     rfl
                    refine take_ (i := 3) (N := some 123) (v := ?_) (a' := ?_) (ba 48 15) rfl rfl (take_ofW HT_.out HW_.out (by kernel_rfl)) (fun _ _ _ h => h) (Or.inl ⟨by rfl, ?_⟩) hHeld ?_ ?_
                    rotate_left
                    ·rintro w' ⟨s0, s1, s2, s3, s4, s5, s6, s7, s8, s9, s10, s11, s12, s13, s14, s15, s16, s17, s18, s19⟩
                     go_simp
                     with_reducible rfl
                    rotate_left
                    ·simp only [Act.put, sA, sB, sC, i64_w, i32_w]
                     rfl
                    refine one_ (i := 4) (N := some 124) (ba 48 31) rfl rfl (one_of HT_.out (by kernel_rfl)) (by decide) (fun K hK => ?_)
                    refine goes_ Try.func18 (by kernel_rfl) rfl #[.agg #[.int .i64 ((rd_T31 l0 x7_2).f0), .slice A355_1 ((rd_T31 l0 x7_2).f1).length c355_1, .slice A355_2 ((rd_T31 l0 x7_2).f2).length c355_2, .slice A355_3 ((rd_T31 l0 x7_2).f3).length c355_3]] (by rfl) rfl rfl (by (try simp only [List.map_toArray, List.map_cons, List.map_nil]); first | done | rfl | (simp only [List.length_drop, List.length_take]; rfl)) ?_
                    with_reducible refine (mapmakerref26_Good.calls kj19 ((rd_T31 l0 x7_2).f0) _ _ ((rd_T31 l0 x7_2).f1) _ _ ((rd_T31 l0 x7_2).f2) _ _ ((rd_T31 l0 x7_2).f3) true _ ?side1 ?side2 ?side3 ?side4 ?side5 ?side6 A63.out).mono ?_
                    (case side1 => repeat (first | exact (Kd.C_below HR355_1.out HB.out) | (with_reducible refine cA ?_ _) | (with_reducible refine cN ?_ _) | (with_reducible refine cD ?_)))
                    (case side2 => exact HC355_1.out)
                    (case side3 => repeat (first | exact (Kd.C_below HR355_2.out HB.out) | (with_reducible refine cA ?_ _) | (with_reducible refine cN ?_ _) | (with_reducible refine cD ?_)))
                    (case side4 => exact HC355_2.out)
                    (case side5 => repeat (first | exact (Kd.C_below HR355_3.out HB.out) | (with_reducible refine cA ?_ _) | (with_reducible refine cN ?_ _) | (with_reducible refine cD ?_)))
                    (case side6 => exact HC355_3.out)
                    rintro e w71 ⟨rfl, hb⟩
                    have HS4_ := (hb.cell (World.block_lt_of_cell? _ _ (hHeld.2.2.2.2.1))).trans (hHeld.2.2.2.2.1)
                    have HS5_ := (hb.cell (World.block_lt_of_cell? _ _ (hHeld.2.2.2.2.2.1))).trans (hHeld.2.2.2.2.2.1)
                    have HS6_ := (hb.cell (World.block_lt_of_cell? _ _ (hHeld.2.2.2.2.2.2.1))).trans (hHeld.2.2.2.2.2.2.1)
                    have HS7_ := (hb.cell (World.block_lt_of_cell? _ _ (hHeld.2.2.2.2.2.2.2.1))).trans (hHeld.2.2.2.2.2.2.2.1)
                    have HS12_ := (hb.cell (World.block_lt_of_cell? _ _ (hHeld.2.2.2.2.2.2.2.2.2.2.2.2.1))).trans (hHeld.2.2.2.2.2.2.2.2.2.2.2.2.1)
                    have HS13_ := (hb.cell (World.block_lt_of_cell? _ _ (hHeld.2.2.2.2.2.2.2.2.2.2.2.2.2.1))).trans (hHeld.2.2.2.2.2.2.2.2.2.2.2.2.2.1)
                    have HS14_ := (hb.cell (World.block_lt_of_cell? _ _ (hHeld.2.2.2.2.2.2.2.2.2.2.2.2.2.2.1))).trans (hHeld.2.2.2.2.2.2.2.2.2.2.2.2.2.2.1)
                    have HS15_ := (hb.cell (World.block_lt_of_cell? _ _ (hHeld.2.2.2.2.2.2.2.2.2.2.2.2.2.2.2.1))).trans (hHeld.2.2.2.2.2.2.2.2.2.2.2.2.2.2.2.1)
                    refine ⟨_, rfl, ?_⟩
                    replace HO_5 := aM (Kd.N_below (by (with_reducible repeat (first | apply Kd.N_alloc | apply Kd.N_drewN | apply Kd.N_drew)); exact HO_5.out) hb)
                    replace HO_6 := aM (rB (rl HO_6) hb)
                    replace HB := aM (bS (bl) hb)
                    (try clear hb)
                    (try clear hb2)
                    (try clear hk)
                    (try clear hi)
                    obtain ⟨Ao72, co72, eo72⟩ := Kd.N_slice HO_5.out
                    (first | subst eo72 | (injection eo72 with f1_ f2_ f3_; have f4_ := f1_.symm; have f5_ := f3_.symm; clear f1_ f2_ f3_; subst f4_; subst f5_))
                    refine hK.out _ _ ⟨((HB.out.cell (World.block_lt_of_cell? w _ hw355_0)).trans hw355_0), ((HB.out.cell (World.block_lt_of_cell? w _ hw355_1)).trans hw355_1), ((HB.out.cell (World.block_lt_of_cell? w _ hw355_2)).trans hw355_2), ((HB.out.cell (World.block_lt_of_cell? w _ hw355_3)).trans hw355_3), HS4_, HS5_, HS6_, HS7_, ((HB.out.cell (World.block_lt_of_cell? w _ hw358_0)).trans hw358_0), ((HB.out.cell (World.block_lt_of_cell? w _ hw358_1)).trans hw358_1), ((HB.out.cell (World.block_lt_of_cell? w _ hw358_2)).trans hw358_2), ((HB.out.cell (World.block_lt_of_cell? w _ hw358_3)).trans hw358_3), HS12_, HS13_, HS14_, HS15_, ((HB.out.cell (World.block_lt_of_cell? w _ hw361_0)).trans hw361_0), ((HB.out.cell (World.block_lt_of_cell? w _ hw361_1)).trans hw361_1), ((HB.out.cell (World.block_lt_of_cell? w _ hw361_2)).trans hw361_2), ((HB.out.cell (World.block_lt_of_cell? w _ hw361_3)).trans hw361_3)⟩ (fun hHeld => ?_)
                    clear hK K
                    refine norm_ (a' := ?_) ?_ ?_
                    rotate_left
                    ·show Act.put _ (some 124) _ = _
                     simp only [Act.put, sA, sB, sC, i64_w, i32_w]
                     rfl
                    refine pure_ (i := 5) (N := some 125) (v := ?_) (a' := ?_) (ba 48 63) rfl rfl (any_of HT_.out (by kernel_rfl)) (fun _ _ _ h => h) (Or.inl ⟨by rfl, ?_⟩) ?_ ?_
                    rotate_left
                    ·intro w'
                     go_simp
                     with_reducible rfl
                    rotate_left
                    ·simp only [Act.put, sA, sB, sC, i64_w, i32_w]
                     rfl
                    refine pure_ (i := 6) (N := some 126) (v := ?_) (a' := ?_) (ba 48 127) rfl rfl (any_of HT_.out (by kernel_rfl)) (fun _ _ _ h => h) (Or.inl ⟨by rfl, ?_⟩) ?_ ?_
                    rotate_left
                    ·intro w'
                     go_simp
                     with_reducible rfl
                    rotate_left
                    ·simp only [Act.put, sA, sB, sC, i64_w, i32_w]
                     rfl
                    refine pure_ (i := 7) (N := some 127) (v := ?_) (a' := ?_) (ba 48 255) rfl rfl (any_of HT_.out (by kernel_rfl)) (fun _ _ _ h => h) (Or.inl ⟨by rfl, ?_⟩) ?_ ?_
                    rotate_left
                    ·intro w'
                     go_simp
                     with_reducible rfl
                    rotate_left
                    ·simp only [Act.put, sA, sB, sC, i64_w, i32_w]
                     rfl
                    refine pure_ (i := 8) (N := some 128) (v := ?_) (a' := ?_) (ba 48 511) rfl rfl (any_of HT_.out (by kernel_rfl)) (fun _ _ _ h => h) (Or.inl ⟨by rfl, ?_⟩) ?_ ?_
                    rotate_left
                    ·intro w'
                     go_simp
                     with_reducible rfl
                    rotate_left
                    ·simp only [Act.put, sA, sB, sC, i64_w, i32_w]
                     rfl
                    refine pure_ (i := 9) (N := some 129) (v := ?_) (a' := ?_) (ba 48 1023) rfl rfl (any_of HT_.out (by kernel_rfl)) (fun _ _ _ h => h) (Or.inl ⟨by rfl, ?_⟩) ?_ ?_
                    rotate_left
                    ·intro w'
                     go_simp
                     with_reducible rfl
                    rotate_left
                    ·simp only [Act.put, sA, sB, sC, i64_w, i32_w]
                     rfl
                    refine pure_ (i := 10) (N := some 130) (v := ?_) (a' := ?_) (ba 48 2047) rfl rfl (any_of HT_.out (by kernel_rfl)) (fun _ _ _ h => h) (Or.inl ⟨by rfl, ?_⟩) ?_ ?_
                    rotate_left
                    ·intro w'
                     go_simp
                     with_reducible rfl
                    rotate_left
                    ·simp only [Act.put, sA, sB, sC, i64_w, i32_w]
                     rfl
                    refine take_ (i := 11) (N := some 131) (v := ?_) (a' := ?_) (ba 48 4095) rfl rfl (take_ofW HT_.out HW_.out (by kernel_rfl)) (fun _ _ _ h => h) (Or.inl ⟨by rfl, ?_⟩) hHeld ?_ ?_
                    rotate_left
                    ·rintro w' ⟨s0, s1, s2, s3, s4, s5, s6, s7, s8, s9, s10, s11, s12, s13, s14, s15, s16, s17, s18, s19⟩
                     go_simp
                     with_reducible rfl
                    rotate_left
                    ·simp only [Act.put, sA, sB, sC, i64_w, i32_w]
                     rfl
                    refine pure_ (i := 12) (N := some 132) (v := ?_) (a' := ?_) (ba 48 8191) rfl rfl (any_of HT_.out (by kernel_rfl)) (fun _ _ _ h => h) (Or.inl ⟨by rfl, ?_⟩) ?_ ?_
                    rotate_left
                    ·intro w'
                     go_simp
                     with_reducible rfl
                    rotate_left
                    ·simp only [Act.put, sA, sB, sC, i64_w, i32_w]
                     rfl
                    refine pure_ (i := 13) (N := some 133) (v := ?_) (a' := ?_) (ba 48 16383) rfl rfl (any_of HT_.out (by kernel_rfl)) (fun _ _ _ h => h) (Or.inl ⟨by rfl, ?_⟩) ?_ ?_
                    rotate_left
                    ·intro w'
                     go_simp
                     with_reducible rfl
                    rotate_left
                    ·simp only [Act.put, sA, sB, sC, i64_w, i32_w]
                     rfl
                    refine pure_ (i := 14) (N := some 134) (v := ?_) (a' := ?_) (ba 48 32767) rfl rfl (any_of HT_.out (by kernel_rfl)) (fun _ _ _ h => h) (Or.inl ⟨by rfl, ?_⟩) ?_ ?_
                    rotate_left
                    ·intro w'
                     go_simp
                     with_reducible rfl
                    rotate_left
                    ·simp only [Act.put, sA, sB, sC, i64_w, i32_w]
                     rfl
                    refine pure_ (i := 15) (N := some 135) (v := ?_) (a' := ?_) (ba 48 65535) rfl rfl (any_of HT_.out (by kernel_rfl)) (fun _ _ _ h => h) (Or.inl ⟨by rfl, ?_⟩) ?_ ?_
                    rotate_left
                    ·intro w'
                     go_simp
                     with_reducible rfl
                    rotate_left
                    ·simp only [Act.put, sA, sB, sC, i64_w, i32_w]
                     rfl
                    refine pure_ (i := 16) (N := some 136) (v := ?_) (a' := ?_) (ba 48 131071) rfl rfl (any_of HT_.out (by kernel_rfl)) (fun _ _ _ h => h) (Or.inl ⟨by rfl, ?_⟩) ?_ ?_
                    rotate_left
                    ·intro w'
                     go_simp
                     with_reducible rfl
                    rotate_left
                    ·simp only [Act.put, sA, sB, sC, i64_w, i32_w]
                     rfl
                    refine pure_ (i := 17) (N := some 137) (v := ?_) (a' := ?_) (ba 48 262143) rfl rfl (any_of HT_.out (by kernel_rfl)) (fun _ _ _ h => h) (Or.inl ⟨by rfl, ?_⟩) ?_ ?_
                    rotate_left
                    ·intro w'
                     go_simp
                     with_reducible rfl
                    rotate_left
                    ·simp only [Act.put, sA, sB, sC, i64_w, i32_w]
                     rfl
                    refine pure_ (i := 18) (N := some 138) (v := ?_) (a' := ?_) (ba 48 524287) rfl rfl (any_of HT_.out (by kernel_rfl)) (fun _ _ _ h => h) (Or.inl ⟨by rfl, ?_⟩) ?_ ?_
                    rotate_left
                    ·intro w'
                     go_simp
                     with_reducible rfl
                    rotate_left
                    ·simp only [Act.put, sA, sB, sC, i64_w, i32_w]
                     rfl
                    refine take_ (i := 19) (N := some 139) (v := ?_) (a' := ?_) (ba 48 1048575) rfl rfl (take_ofW HT_.out HW_.out (by kernel_rfl)) (fun _ _ _ h => h) (Or.inl ⟨by rfl, ?_⟩) hHeld ?_ ?_
                    rotate_left
                    ·rintro w' ⟨s0, s1, s2, s3, s4, s5, s6, s7, s8, s9, s10, s11, s12, s13, s14, s15, s16, s17, s18, s19⟩
                     go_simp
                     with_reducible rfl
                    rotate_left
                    ·simp only [Act.put, sA, sB, sC, i64_w, i32_w]
                     rfl
                    refine one_ (i := 20) (N := some 140) (ba 48 2097151) rfl rfl (one_of HT_.out (by kernel_rfl)) (by decide) (fun K hK => ?_)
                    refine goes_ Try.func18 (by kernel_rfl) rfl #[.agg #[.int .i64 ((rd_T31 l0 x7_2).f0), .slice A355_1 ((rd_T31 l0 x7_2).f1).length c355_1, .slice A355_2 ((rd_T31 l0 x7_2).f2).length c355_2, .slice A355_3 ((rd_T31 l0 x7_2).f3).length c355_3]] (by rfl) rfl rfl (by (try simp only [List.map_toArray, List.map_cons, List.map_nil]); first | done | rfl | (simp only [List.length_drop, List.length_take]; rfl)) ?_
                    with_reducible refine (mapmakerref26_Good.calls kj19 ((rd_T31 l0 x7_2).f0) _ _ ((rd_T31 l0 x7_2).f1) _ _ ((rd_T31 l0 x7_2).f2) _ _ ((rd_T31 l0 x7_2).f3) true _ ?side1 ?side2 ?side3 ?side4 ?side5 ?side6 A67.out).mono ?_
                    (case side1 => repeat (first | exact (Kd.C_below HR355_1.out HB.out) | (with_reducible refine cA ?_ _) | (with_reducible refine cN ?_ _) | (with_reducible refine cD ?_)))
                    (case side2 => exact HC355_1.out)
                    (case side3 => repeat (first | exact (Kd.C_below HR355_2.out HB.out) | (with_reducible refine cA ?_ _) | (with_reducible refine cN ?_ _) | (with_reducible refine cD ?_)))
                    (case side4 => exact HC355_2.out)
                    (case side5 => repeat (first | exact (Kd.C_below HR355_3.out HB.out) | (with_reducible refine cA ?_ _) | (with_reducible refine cN ?_ _) | (with_reducible refine cD ?_)))
                    (case side6 => exact HC355_3.out)
                    rintro e w73 ⟨rfl, hb⟩
                    have HS4_ := (hb.cell (World.block_lt_of_cell? _ _ (hHeld.2.2.2.2.1))).trans (hHeld.2.2.2.2.1)
                    have HS5_ := (hb.cell (World.block_lt_of_cell? _ _ (hHeld.2.2.2.2.2.1))).trans (hHeld.2.2.2.2.2.1)
                    have HS6_ := (hb.cell (World.block_lt_of_cell? _ _ (hHeld.2.2.2.2.2.2.1))).trans (hHeld.2.2.2.2.2.2.1)
                    have HS7_ := (hb.cell (World.block_lt_of_cell? _ _ (hHeld.2.2.2.2.2.2.2.1))).trans (hHeld.2.2.2.2.2.2.2.1)
                    have HS12_ := (hb.cell (World.block_lt_of_cell? _ _ (hHeld.2.2.2.2.2.2.2.2.2.2.2.2.1))).trans (hHeld.2.2.2.2.2.2.2.2.2.2.2.2.1)
                    have HS13_ := (hb.cell (World.block_lt_of_cell? _ _ (hHeld.2.2.2.2.2.2.2.2.2.2.2.2.2.1))).trans (hHeld.2.2.2.2.2.2.2.2.2.2.2.2.2.1)
                    have HS14_ := (hb.cell (World.block_lt_of_cell? _ _ (hHeld.2.2.2.2.2.2.2.2.2.2.2.2.2.2.1))).trans (hHeld.2.2.2.2.2.2.2.2.2.2.2.2.2.2.1)
                    have HS15_ := (hb.cell (World.block_lt_of_cell? _ _ (hHeld.2.2.2.2.2.2.2.2.2.2.2.2.2.2.2.1))).trans (hHeld.2.2.2.2.2.2.2.2.2.2.2.2.2.2.2.1)
                    refine ⟨_, rfl, ?_⟩
                    replace HO_5 := aM (Kd.N_below (by (with_reducible repeat (first | apply Kd.N_alloc | apply Kd.N_drewN | apply Kd.N_drew)); exact HO_5.out) hb)
                    replace HO_6 := aM (rB (rl HO_6) hb)
                    replace HB := aM (bS (bl) hb)
                    (try clear hb)
                    (try clear hb2)
                    (try clear hk)
                    (try clear hi)
                    refine hK.out _ _ ⟨((HB.out.cell (World.block_lt_of_cell? w _ hw355_0)).trans hw355_0), ((HB.out.cell (World.block_lt_of_cell? w _ hw355_1)).trans hw355_1), ((HB.out.cell (World.block_lt_of_cell? w _ hw355_2)).trans hw355_2), ((HB.out.cell (World.block_lt_of_cell? w _ hw355_3)).trans hw355_3), HS4_, HS5_, HS6_, HS7_, ((HB.out.cell (World.block_lt_of_cell? w _ hw358_0)).trans hw358_0), ((HB.out.cell (World.block_lt_of_cell? w _ hw358_1)).trans hw358_1), ((HB.out.cell (World.block_lt_of_cell? w _ hw358_2)).trans hw358_2), ((HB.out.cell (World.block_lt_of_cell? w _ hw358_3)).trans hw358_3), HS12_, HS13_, HS14_, HS15_, ((HB.out.cell (World.block_lt_of_cell? w _ hw361_0)).trans hw361_0), ((HB.out.cell (World.block_lt_of_cell? w _ hw361_1)).trans hw361_1), ((HB.out.cell (World.block_lt_of_cell? w _ hw361_2)).trans hw361_2), ((HB.out.cell (World.block_lt_of_cell? w _ hw361_3)).trans hw361_3)⟩ (fun hHeld => ?_)
                    clear hK K
                    refine norm_ (a' := ?_) ?_ ?_
                    rotate_left
                    ·show Act.put _ (some 140) _ = _
                     simp only [Act.put, sA, sB, sC, i64_w, i32_w]
                     rfl
                    refine pure_ (i := 21) (N := some 141) (v := ?_) (a' := ?_) (ba 48 4194303) rfl rfl (any_of HT_.out (by kernel_rfl)) (fun _ _ _ h => h) (Or.inl ⟨by rfl, ?_⟩) ?_ ?_
                    rotate_left
                    ·intro w'
                     go_simp
                     with_reducible rfl
                    rotate_left
                    ·simp only [Act.put, sA, sB, sC, i64_w, i32_w]
                     rfl
                    refine pure_ (i := 22) (N := some 142) (v := ?_) (a' := ?_) (ba 48 8388607) rfl rfl (any_of HT_.out (by kernel_rfl)) (fun _ _ _ h => h) (Or.inl ⟨by rfl, ?_⟩) ?_ ?_
                    rotate_left
                    ·intro w'
                     go_simp
                     with_reducible rfl
                    rotate_left
                    ·simp only [Act.put, sA, sB, sC, i64_w, i32_w]
                     rfl
                    refine pure_ (i := 23) (N := some 143) (v := undef) (a' := ?_) (ba 48 16777215) rfl rfl (any_of HT_.out (by kernel_rfl)) (fun _ _ _ h => h) (Or.inr ⟨by rfl, rfl⟩) ?_ ?_
                    rotate_left
                    ·simp only [Act.put, sA, sB, sC, i64_w, i32_w]
                     rfl
                    refine pure_ (i := 24) (N := some 144) (v := undef) (a' := ?_) (ba 48 33554431) rfl rfl (any_of HT_.out (by kernel_rfl)) (fun _ _ _ h => h) (Or.inr ⟨by rfl, rfl⟩) ?_ ?_
                    rotate_left
                    ·simp only [Act.put, sA, sB, sC, i64_w, i32_w]
                     rfl
                    refine pure_ (i := 25) (N := some 145) (v := undef) (a' := ?_) (ba 48 67108863) rfl rfl (any_of HT_.out (by kernel_rfl)) (fun _ _ _ h => h) (Or.inr ⟨by rfl, rfl⟩) ?_ ?_
                    rotate_left
                    ·simp only [Act.put, sA, sB, sC, i64_w, i32_w]
                     rfl
                    refine pure_ (i := 26) (N := some 146) (v := undef) (a' := ?_) (ba 48 134217727) rfl rfl (any_of HT_.out (by kernel_rfl)) (fun _ _ _ h => h) (Or.inr ⟨by rfl, rfl⟩) ?_ ?_
                    rotate_left
                    ·simp only [Act.put, sA, sB, sC, i64_w, i32_w]
                     rfl
                    refine pure_ (i := 27) (N := some 147) (v := undef) (a' := ?_) (ba 48 268435455) rfl rfl (any_of HT_.out (by kernel_rfl)) (fun _ _ _ h => h) (Or.inr ⟨by rfl, rfl⟩) ?_ ?_
                    rotate_left
                    ·simp only [Act.put, sA, sB, sC, i64_w, i32_w]
                     rfl
                    refine pure_ (i := 28) (N := some 148) (v := undef) (a' := ?_) (ba 48 536870911) rfl rfl (any_of HT_.out (by kernel_rfl)) (fun _ _ _ h => h) (Or.inr ⟨by rfl, rfl⟩) ?_ ?_
                    rotate_left
                    ·simp only [Act.put, sA, sB, sC, i64_w, i32_w]
                     rfl
                    refine pure_ (i := 29) (N := some 149) (v := undef) (a' := ?_) (ba 48 1073741823) rfl rfl (any_of HT_.out (by kernel_rfl)) (fun _ _ _ h => h) (Or.inr ⟨by rfl, rfl⟩) ?_ ?_
                    rotate_left
                    ·simp only [Act.put, sA, sB, sC, i64_w, i32_w]
                     rfl
                    refine pure_ (i := 30) (N := some 150) (v := undef) (a' := ?_) (ba 48 2147483647) rfl rfl (any_of HT_.out (by kernel_rfl)) (fun _ _ _ h => h) (Or.inr ⟨by rfl, rfl⟩) ?_ ?_
                    rotate_left
                    ·simp only [Act.put, sA, sB, sC, i64_w, i32_w]
                     rfl
                    refine pure_ (i := 31) (N := some 151) (v := undef) (a' := ?_) (ba 48 4294967295) rfl rfl (any_of HT_.out (by kernel_rfl)) (fun _ _ _ h => h) (Or.inr ⟨by rfl, rfl⟩) ?_ ?_
                    rotate_left
                    ·simp only [Act.put, sA, sB, sC, i64_w, i32_w]
                     rfl
                    refine pure_ (i := 32) (N := some 152) (v := undef) (a' := ?_) (ba 48 8589934591) rfl rfl (any_of HT_.out (by kernel_rfl)) (fun _ _ _ h => h) (Or.inr ⟨by rfl, rfl⟩) ?_ ?_
                    rotate_left
                    ·simp only [Act.put, sA, sB, sC, i64_w, i32_w]
                     rfl
                    refine pure_ (i := 33) (N := some 153) (v := ?_) (a' := ?_) (ba 48 17179869183) rfl rfl (any_of HT_.out (by kernel_rfl)) (fun _ _ _ h => h) (Or.inl ⟨by rfl, ?_⟩) ?_ ?_
                    rotate_left
                    ·intro w'
                     go_simp
                     with_reducible rfl
                    rotate_left
                    ·simp only [Act.put, sA, sB, sC, i64_w, i32_w]
                     rfl
                    refine pure_ (i := 34) (N := some 154) (v := ?_) (a' := ?_) (ba 48 34359738367) rfl rfl (any_of HT_.out (by kernel_rfl)) (fun _ _ _ h => h) (Or.inl ⟨by rfl, ?_⟩) ?_ ?_
                    rotate_left
                    ·intro w'
                     go_simp
                     with_reducible rfl
                    rotate_left
                    ·simp only [Act.put, sA, sB, sC, i64_w, i32_w]
                     rfl
                    refine pure_ (i := 35) (N := some 155) (v := ?_) (a' := ?_) (ba 48 68719476735) rfl rfl (any_of HT_.out (by kernel_rfl)) (fun _ _ _ h => h) (Or.inl ⟨by rfl, ?_⟩) ?_ ?_
                    rotate_left
                    ·intro w'
                     go_simp
                     with_reducible rfl
                    rotate_left
                    ·simp only [Act.put, sA, sB, sC, i64_w, i32_w]
                     rfl
                    refine pure_ (i := 36) (N := some 156) (v := ?_) (a' := ?_) (ba 48 137438953471) rfl rfl (any_of HT_.out (by kernel_rfl)) (fun _ _ _ h => h) (Or.inl ⟨by rfl, ?_⟩) ?_ ?_
                    rotate_left
                    ·intro w'
                     go_simp
                     with_reducible rfl
                    rotate_left
                    ·simp only [Act.put, sA, sB, sC, i64_w, i32_w]
                     rfl
                    refine pure_ (i := 37) (N := some 157) (v := ?_) (a' := ?_) (ba 48 274877906943) rfl rfl (any_of HT_.out (by kernel_rfl)) (fun _ _ _ h => h) (Or.inl ⟨by rfl, ?_⟩) ?_ ?_
                    rotate_left
                    ·intro w'
                     go_simp
                     with_reducible rfl
                    rotate_left
                    ·simp only [Act.put, sA, sB, sC, i64_w, i32_w]
                     rfl
                    refine pure_ (i := 38) (N := some 158) (v := ?_) (a' := ?_) (ba 48 549755813887) rfl rfl (any_of HT_.out (by kernel_rfl)) (fun _ _ _ h => h) (Or.inl ⟨by rfl, ?_⟩) ?_ ?_
                    rotate_left
                    ·intro w'
                     go_simp
                     with_reducible rfl
                    rotate_left
                    ·simp only [Act.put, sA, sB, sC, i64_w, i32_w]
                     rfl
                    refine pure_ (i := 39) (N := some 159) (v := ?_) (a' := ?_) (ba 48 1099511627775) rfl rfl (any_of HT_.out (by kernel_rfl)) (fun _ _ _ h => h) (Or.inl ⟨by rfl, ?_⟩) ?_ ?_
                    rotate_left
                    ·intro w'
                     go_simp
                     with_reducible rfl
                    rotate_left
                    ·simp only [Act.put, sA, sB, sC, i64_w, i32_w]
                     rfl
                    refine pure_ (i := 41) (N := some 161) (v := ?_) (a' := ?_) (ba 48 3298534883327) rfl rfl (any_of HT_.out (by kernel_rfl)) (fun _ _ _ h => h) (Or.inl ⟨by rfl, ?_⟩) ?_ ?_
                    rotate_left
                    ·intro w'
                     go_simp
                     with_reducible rfl
                    rotate_left
                    ·simp only [Act.put, sA, sB, sC, i64_w, i32_w]
                     rfl
                    refine pure_ (i := 42) (N := some 162) (v := ?_) (a' := ?_) (ba 48 7696581394431) rfl rfl (any_of HT_.out (by kernel_rfl)) (fun _ _ _ h => h) (Or.inl ⟨by rfl, ?_⟩) ?_ ?_
                    rotate_left
                    ·intro w'
                     go_simp
                     with_reducible rfl
                    rotate_left
                    ·simp only [Act.put, sA, sB, sC, i64_w, i32_w]
                     rfl
                    refine pure_ (i := 43) (N := some 163) (v := ?_) (a' := ?_) (ba 48 16492674416639) rfl rfl (any_of HT_.out (by kernel_rfl)) (fun _ _ _ h => h) (Or.inl ⟨by rfl, ?_⟩) ?_ ?_
                    rotate_left
                    ·intro w'
                     go_simp
                     with_reducible rfl
                    rotate_left
                    ·simp only [Act.put, sA, sB, sC, i64_w, i32_w]
                     rfl
                    refine pure_ (i := 44) (N := some 164) (v := ?_) (a' := ?_) (ba 48 34084860461055) rfl rfl (any_of HT_.out (by kernel_rfl)) (fun _ _ _ h => h) (Or.inl ⟨by rfl, ?_⟩) ?_ ?_
                    rotate_left
                    ·intro w'
                     go_simp
                     with_reducible rfl
                    rotate_left
                    ·simp only [Act.put, sA, sB, sC, i64_w, i32_w]
                     rfl
                    refine take_ (i := 40) (N := some 160) (v := ?_) (a' := ?_) (ba 48 35184372088831) rfl rfl (take_ofW HT_.out HW_.out (by kernel_rfl)) (fun _ _ _ h => h) (Or.inl ⟨by rfl, ?_⟩) hHeld ?_ ?_
                    rotate_left
                    ·rintro w' ⟨s0, s1, s2, s3, s4, s5, s6, s7, s8, s9, s10, s11, s12, s13, s14, s15, s16, s17, s18, s19⟩
                     go_simp
                     with_reducible rfl
                    rotate_left
                    ·simp only [Act.put, sA, sB, sC, i64_w, i32_w]
                     rfl
                    refine take_ (i := 45) (N := some 165) (v := ?_) (a' := ?_) (ba 48 70368744177663) rfl rfl (take_ofW HT_.out HW_.out (by kernel_rfl)) (fun _ _ _ h => h) (Or.inl ⟨by rfl, ?_⟩) hHeld ?_ ?_
                    rotate_left
                    ·rintro w' ⟨s0, s1, s2, s3, s4, s5, s6, s7, s8, s9, s10, s11, s12, s13, s14, s15, s16, s17, s18, s19⟩
                     go_simp
                     with_reducible rfl
                    rotate_left
                    ·simp only [Act.put, sA, sB, sC, i64_w, i32_w]
                     rfl
                    refine pure_ (i := 46) (N := some 166) (v := ?_) (a' := ?_) (ba 48 140737488355327) rfl rfl (any_of HT_.out (by kernel_rfl)) (fun _ _ _ h => h) (Or.inl ⟨by rfl, ?_⟩) ?_ ?_
                    rotate_left
                    ·intro w'
                     go_simp
                     with_reducible rfl
                    rotate_left
                    ·simp only [Act.put, sA, sB, sC, i64_w, i32_w]
                     rfl
                    refine pure_ (i := 47) (N := some 167) (v := ?_) (a' := ?_) (ba 48 281474976710655) rfl rfl (any_of HT_.out (by kernel_rfl)) (fun _ _ _ h => h) (Or.inl ⟨by rfl, ?_⟩) ?_ ?_
                    rotate_left
                    ·intro w'
                     go_simp
                     with_reducible rfl
                    rotate_left
                    ·simp only [Act.put, sA, sB, sC, i64_w, i32_w]
                     rfl
                    refine done_ (done_of HT_.out (by kernel_rfl)) ?_
                    try go_wp2
                    go_roundg kj19
                    case measure => have := HJ6.out; have := HK2.out; have := HK3.out; have := HJ19.out; omega
                    case rel => exact ⟨(wrap64 (x7_2 + 1)), (by first | rfl | (simp; done) | (simp [*]; done)), H', ⟨by have := HJ6.out; have := HK2.out; have := HK3.out; have := HJ19.out; omega⟩, ⟨by (with_reducible repeat (first | apply Kd.N_alloc | apply Kd.N_drewN | apply Kd.N_drew)); exact HO_5.out⟩, ⟨by (with_reducible repeat (first | apply rA | apply rN | apply rD)); exact HO_6.out⟩, ⟨bl⟩⟩
                   ·rw [if_neg c69] at H
                    have c69b0 : (((rd_T31 t329 x7_2).f0) == ((rd_T31 l0 x7_2).f0)) = false := beq_eq_false_iff_ne.mpr c69
                    have c69b1 : (((rd_T31 t329 x7_2).f0) != ((rd_T31 l0 x7_2).f0)) = true := bne_iff_ne.mpr c69
                    obtain rfl := Option.some.inj H
                    cases hT
                  ·rw [if_neg c68] at H
                   exact absurd H (by simp)
                 ·rw [if_neg c66] at H
                  have c66b0 : (x8_3 == (((rd_T31 t329 x7_2).f1).length : Int)) = false := beq_eq_false_iff_ne.mpr c66
                  have c66b1 : (x8_3 != (((rd_T31 t329 x7_2).f1).length : Int)) = true := bne_iff_ne.mpr c66
                  obtain rfl := Option.some.inj H
                  cases hT
                ·rw [if_neg c65] at H
                 exact absurd H (by simp)
               ·replace c64 := Bool.eq_false_iff.mpr c64
                subst c64
                have H1 : ((mapmakerref26_Good.f kj19 ((rd_T31 l0 x7_2).f0) ((rd_T31 l0 x7_2).f1) ((rd_T31 l0 x7_2).f2) ((rd_T31 l0 x7_2).f3)).bind fun t368 => (if t368 = true then (none) else (if x7_2 < (t329.length : Int) then ((mapmakerlaw26_same.f kj19 ((rd_T31 t329 x7_2).f0) ((rd_T31 t329 x7_2).f1) ((rd_T31 t329 x7_2).f2) ((rd_T31 t329 x7_2).f3) ((rd_T31 l0 x7_2).f0) ((rd_T31 l0 x7_2).f1) ((rd_T31 l0 x7_2).f2) ((rd_T31 l0 x7_2).f3)).bind fun t373 => (if t373 = true then (if ((rd_T31 t329 x7_2).f0) = ((rd_T31 l0 x7_2).f0) then (mapmakerlaw26_GeneralizeKeeps.l0 kj19 l0 t329 t332 (wrap64 (x7_2 + 1))) else (some false)) else (some false))) else (none)))) = some r := by rw [if_neg (show ¬ (false = true) by decide)] at H; exact H
                clear H
                have H := H1
                clear H1
                replace H := Option.bind_eq_some_iff.mp H
                obtain ⟨t368, A990, H⟩ := H
                try dsimp only at H
                have A99 := aM A990
                clear A990
                by_cases c100 : t368 = true
                ·rw [if_pos c100] at H
                 exact absurd H (by simp)
                ·replace c100 := Bool.eq_false_iff.mpr c100
                 subst c100
                 have H1 : (if x7_2 < (t329.length : Int) then ((mapmakerlaw26_same.f kj19 ((rd_T31 t329 x7_2).f0) ((rd_T31 t329 x7_2).f1) ((rd_T31 t329 x7_2).f2) ((rd_T31 t329 x7_2).f3) ((rd_T31 l0 x7_2).f0) ((rd_T31 l0 x7_2).f1) ((rd_T31 l0 x7_2).f2) ((rd_T31 l0 x7_2).f3)).bind fun t373 => (if t373 = true then (if ((rd_T31 t329 x7_2).f0) = ((rd_T31 l0 x7_2).f0) then (mapmakerlaw26_GeneralizeKeeps.l0 kj19 l0 t329 t332 (wrap64 (x7_2 + 1))) else (some false)) else (some false))) else (none)) = some r := by rw [if_neg (show ¬ (false = true) by decide)] at H; exact H
                 clear H
                 have H := H1
                 clear H1
                 by_cases c111 : x7_2 < (t329.length : Int)
                 ·rw [if_pos c111] at H
                  have c111b0 : decide (x7_2 < (t329.length : Int)) = true := decide_eq_true c111
                  clear c111
                  replace H := Option.bind_eq_some_iff.mp H
                  obtain ⟨t373, A1120, H⟩ := H
                  try dsimp only at H
                  have A112 := aM A1120
                  clear A1120
                  by_cases c113 : t373 = true
                  ·subst c113
                   have H1 : (if ((rd_T31 t329 x7_2).f0) = ((rd_T31 l0 x7_2).f0) then (mapmakerlaw26_GeneralizeKeeps.l0 kj19 l0 t329 t332 (wrap64 (x7_2 + 1))) else (some false)) = some r := by rw [if_pos rfl] at H; exact H
                   clear H
                   have H := H1
                   clear H1
                   by_cases c114 : ((rd_T31 t329 x7_2).f0) = ((rd_T31 l0 x7_2).f0)
                   ·as_aux_lemma =>
                    rw [if_pos c114] at H
                    have c114b0 : (((rd_T31 t329 x7_2).f0) == ((rd_T31 l0 x7_2).f0)) = true := beq_iff_eq.mpr c114
                    have c114b1 : (((rd_T31 t329 x7_2).f0) != ((rd_T31 l0 x7_2).f0)) = false := bne_eq_false_iff_eq.mpr c114
                    clear c114
                    have H' := aM H
                    clear H
                    try go_wp2
                    replace HO_5 := aM (Kd.N_drew HO_5.out)
                    replace HO_6 := aM (rD HO_6.out)
                    replace HB := aM (bD HB.out)
                    have p355 : 0 ≤ (x7_2 : Int) := of_decide_eq_true (by first | (with_reducible assumption) | assumption)
                    have q355 : x7_2 < (l0.length : Int) := of_decide_eq_true (by first | (with_reducible assumption) | assumption)
                    obtain ⟨ad355, A355_1, c355_1, A355_2, c355_2, A355_3, c355_3, e355, hx355_0, hx355_1, hx355_2, hx355_3, hl355_1, hi355_1, hl355_2, hi355_2, hl355_3, hi355_3⟩ := at_T31 HR0.out x7_2 p355 q355
                    have hw355_3 := hx355_3
                    have hw355_2 := hx355_2
                    have hw355_1 := hx355_1
                    have hw355_0 := hx355_0
                    cases e355
                    replace hx355_0 := (HB.out.cell (World.block_lt_of_cell? w _ hx355_0)).trans hx355_0
                    replace hx355_1 := (HB.out.cell (World.block_lt_of_cell? w _ hx355_1)).trans hx355_1
                    replace hx355_2 := (HB.out.cell (World.block_lt_of_cell? w _ hx355_2)).trans hx355_2
                    replace hx355_3 := (HB.out.cell (World.block_lt_of_cell? w _ hx355_3)).trans hx355_3
                    have HR355_1 := aM hi355_1
                    have HC355_1 := aM hl355_1
                    clear hi355_1 hl355_1
                    have HR355_2 := aM hi355_2
                    have HC355_2 := aM hl355_2
                    clear hi355_2 hl355_2
                    have HR355_3 := aM hi355_3
                    have HC355_3 := aM hl355_3
                    clear hi355_3 hl355_3
                    replace p355 := eq_true p355
                    replace q355 := eq_true q355
                    have p367 : 0 ≤ (x7_2 : Int) := of_decide_eq_true (by first | (with_reducible assumption) | assumption)
                    have q367 : x7_2 < (l0.length : Int) := of_decide_eq_true (by first | (with_reducible assumption) | assumption)
                    obtain ⟨ad367, A367_1, c367_1, A367_2, c367_2, A367_3, c367_3, e367, hx367_0, hx367_1, hx367_2, hx367_3, hl367_1, hi367_1, hl367_2, hi367_2, hl367_3, hi367_3⟩ := at_T31 HR0.out x7_2 p367 q367
                    have hw367_3 := hx367_3
                    have hw367_2 := hx367_2
                    have hw367_1 := hx367_1
                    have hw367_0 := hx367_0
                    obtain rfl : ad355 = ad367 := (by injection e367)
                    replace hx367_0 := (HB.out.cell (World.block_lt_of_cell? w _ hx367_0)).trans hx367_0
                    replace hx367_1 := (HB.out.cell (World.block_lt_of_cell? w _ hx367_1)).trans hx367_1
                    replace hx367_2 := (HB.out.cell (World.block_lt_of_cell? w _ hx367_2)).trans hx367_2
                    replace hx367_3 := (HB.out.cell (World.block_lt_of_cell? w _ hx367_3)).trans hx367_3
                    have HR367_1 := aM hi367_1
                    have HC367_1 := aM hl367_1
                    clear hi367_1 hl367_1
                    have HR367_2 := aM hi367_2
                    have HC367_2 := aM hl367_2
                    clear hi367_2 hl367_2
                    have HR367_3 := aM hi367_3
                    have HC367_3 := aM hl367_3
                    clear hi367_3 hl367_3
                    replace p367 := eq_true p367
                    replace q367 := eq_true q367
                    have p371 : 0 ≤ (x7_2 : Int) := of_decide_eq_true (by first | (with_reducible assumption) | assumption)
                    have q371 : x7_2 < (t329.length : Int) := of_decide_eq_true (by first | (with_reducible assumption) | assumption)
                    obtain ⟨AoZ, coZ, eoZ⟩ := Kd.N_slice HO_5.out
                    subst eoZ
                    obtain ⟨ad371, A371_1, c371_1, A371_2, c371_2, A371_3, c371_3, e371, hx371_0, hx371_1, hx371_2, hx371_3, hl371_1, hi371_1, hl371_2, hi371_2, hl371_3, hi371_3⟩ := at_T31 (Kd.N_reads' HO_5.out).2.2 x7_2 p371 q371
                    cases e371
                    obtain ⟨ce371, hce371, hMe371, hcc371⟩ := Kd.N_get HO_5.out z31 x7_2 p371 (by first | exact q371 | exact of_decide_eq_true (by first | (with_reducible assumption) | assumption) | (have e_ := (Kd.N_reads' HO_5.out).1; omega))
                    obtain ⟨ua371_1, uc371_1, ua371_2, uc371_2, ua371_3, uc371_3, rfl, ul371_1, ge371_1, ul371_2, ge371_2, ul371_3, ge371_3⟩ := k31_openF hMe371
                    have hv371_1 := hcc371 1 _ rfl
                    rw [add_field _ _ 1 (by omega)] at hv371_1
                    replace hv371_1 := Option.some.inj (hv371_1.symm.trans hx371_1)
                    injection hv371_1 with hva_ hvn_ hvc_
                    rw [hva_] at ge371_1
                    rw [hvc_] at ul371_1
                    have HL371_1 := aM (show Kd.V k40 40 _ w.heap.size _ _ ((rd_T31 t329 x7_2).f1) from Kd.V_mk ul371_1 ge371_1)
                    clear hva_ hvn_ hvc_ ge371_1 ul371_1
                    have hv371_2 := hcc371 2 _ rfl
                    rw [add_field _ _ 2 (by omega)] at hv371_2
                    replace hv371_2 := Option.some.inj (hv371_2.symm.trans hx371_2)
                    injection hv371_2 with hva_ hvn_ hvc_
                    rw [hva_] at ge371_2
                    rw [hvc_] at ul371_2
                    have HL371_2 := aM (show Kd.V (Kd.int .i64) 3 _ w.heap.size _ _ ((rd_T31 t329 x7_2).f2) from Kd.V_mk ul371_2 ge371_2)
                    clear hva_ hvn_ hvc_ ge371_2 ul371_2
                    have hv371_3 := hcc371 3 _ rfl
                    rw [add_field _ _ 3 (by omega)] at hv371_3
                    replace hv371_3 := Option.some.inj (hv371_3.symm.trans hx371_3)
                    injection hv371_3 with hva_ hvn_ hvc_
                    rw [hva_] at ge371_3
                    rw [hvc_] at ul371_3
                    have HL371_3 := aM (show Kd.V k80 80 _ w.heap.size _ _ ((rd_T31 t329 x7_2).f3) from Kd.V_mk ul371_3 ge371_3)
                    clear hva_ hvn_ hvc_ ge371_3 ul371_3 hcc371 hce371
                    have HR371_1 := aM hi371_1
                    have HC371_1 := aM hl371_1
                    clear hi371_1 hl371_1
                    have HR371_2 := aM hi371_2
                    have HC371_2 := aM hl371_2
                    clear hi371_2 hl371_2
                    have HR371_3 := aM hi371_3
                    have HC371_3 := aM hl371_3
                    clear hi371_3 hl371_3
                    replace p371 := eq_true p371
                    replace q371 := eq_true q371
                    have p372 : 0 ≤ (x7_2 : Int) := of_decide_eq_true (by first | (with_reducible assumption) | assumption)
                    have q372 : x7_2 < (l0.length : Int) := of_decide_eq_true (by first | (with_reducible assumption) | assumption)
                    obtain ⟨ad372, A372_1, c372_1, A372_2, c372_2, A372_3, c372_3, e372, hx372_0, hx372_1, hx372_2, hx372_3, hl372_1, hi372_1, hl372_2, hi372_2, hl372_3, hi372_3⟩ := at_T31 HR0.out x7_2 p372 q372
                    have hw372_3 := hx372_3
                    have hw372_2 := hx372_2
                    have hw372_1 := hx372_1
                    have hw372_0 := hx372_0
                    obtain rfl : ad355 = ad372 := (by injection e372)
                    replace hx372_0 := (HB.out.cell (World.block_lt_of_cell? w _ hx372_0)).trans hx372_0
                    replace hx372_1 := (HB.out.cell (World.block_lt_of_cell? w _ hx372_1)).trans hx372_1
                    replace hx372_2 := (HB.out.cell (World.block_lt_of_cell? w _ hx372_2)).trans hx372_2
                    replace hx372_3 := (HB.out.cell (World.block_lt_of_cell? w _ hx372_3)).trans hx372_3
                    have HR372_1 := aM hi372_1
                    have HC372_1 := aM hl372_1
                    clear hi372_1 hl372_1
                    have HR372_2 := aM hi372_2
                    have HC372_2 := aM hl372_2
                    clear hi372_2 hl372_2
                    have HR372_3 := aM hi372_3
                    have HC372_3 := aM hl372_3
                    clear hi372_3 hl372_3
                    replace p372 := eq_true p372
                    replace q372 := eq_true q372
                    have p374 : 0 ≤ (x7_2 : Int) := of_decide_eq_true (by first | (with_reducible assumption) | assumption)
                    have q374 : x7_2 < (t329.length : Int) := of_decide_eq_true (by first | (with_reducible assumption) | assumption)
                    obtain ⟨ad374, A374_1, c374_1, A374_2, c374_2, A374_3, c374_3, e374, hx374_0, hx374_1, hx374_2, hx374_3, hl374_1, hi374_1, hl374_2, hi374_2, hl374_3, hi374_3⟩ := at_T31 (Kd.N_reads' HO_5.out).2.2 x7_2 p374 q374
                    obtain rfl : ad371 = ad374 := (by injection e374)
                    obtain ⟨ce374, hce374, hMe374, hcc374⟩ := Kd.N_get HO_5.out z31 x7_2 p374 (by first | exact q374 | exact of_decide_eq_true (by first | (with_reducible assumption) | assumption) | (have e_ := (Kd.N_reads' HO_5.out).1; omega))
                    obtain ⟨ua374_1, uc374_1, ua374_2, uc374_2, ua374_3, uc374_3, rfl, ul374_1, ge374_1, ul374_2, ge374_2, ul374_3, ge374_3⟩ := k31_openF hMe374
                    have hv374_1 := hcc374 1 _ rfl
                    rw [add_field _ _ 1 (by omega)] at hv374_1
                    replace hv374_1 := Option.some.inj (hv374_1.symm.trans hx374_1)
                    injection hv374_1 with hva_ hvn_ hvc_
                    rw [hva_] at ge374_1
                    rw [hvc_] at ul374_1
                    have HL374_1 := aM (show Kd.V k40 40 _ w.heap.size _ _ ((rd_T31 t329 x7_2).f1) from Kd.V_mk ul374_1 ge374_1)
                    clear hva_ hvn_ hvc_ ge374_1 ul374_1
                    have hv374_2 := hcc374 2 _ rfl
                    rw [add_field _ _ 2 (by omega)] at hv374_2
                    replace hv374_2 := Option.some.inj (hv374_2.symm.trans hx374_2)
                    injection hv374_2 with hva_ hvn_ hvc_
                    rw [hva_] at ge374_2
                    rw [hvc_] at ul374_2
                    have HL374_2 := aM (show Kd.V (Kd.int .i64) 3 _ w.heap.size _ _ ((rd_T31 t329 x7_2).f2) from Kd.V_mk ul374_2 ge374_2)
                    clear hva_ hvn_ hvc_ ge374_2 ul374_2
                    have hv374_3 := hcc374 3 _ rfl
                    rw [add_field _ _ 3 (by omega)] at hv374_3
                    replace hv374_3 := Option.some.inj (hv374_3.symm.trans hx374_3)
                    injection hv374_3 with hva_ hvn_ hvc_
                    rw [hva_] at ge374_3
                    rw [hvc_] at ul374_3
                    have HL374_3 := aM (show Kd.V k80 80 _ w.heap.size _ _ ((rd_T31 t329 x7_2).f3) from Kd.V_mk ul374_3 ge374_3)
                    clear hva_ hvn_ hvc_ ge374_3 ul374_3 hcc374 hce374
                    have HR374_1 := aM hi374_1
                    have HC374_1 := aM hl374_1
                    clear hi374_1 hl374_1
                    have HR374_2 := aM hi374_2
                    have HC374_2 := aM hl374_2
                    clear hi374_2 hl374_2
                    have HR374_3 := aM hi374_3
                    have HC374_3 := aM hl374_3
                    clear hi374_3 hl374_3
                    replace p374 := eq_true p374
                    replace q374 := eq_true q374
                    have p375 : 0 ≤ (x7_2 : Int) := of_decide_eq_true (by first | (with_reducible assumption) | assumption)
                    have q375 : x7_2 < (l0.length : Int) := of_decide_eq_true (by first | (with_reducible assumption) | assumption)
                    obtain ⟨ad375, A375_1, c375_1, A375_2, c375_2, A375_3, c375_3, e375, hx375_0, hx375_1, hx375_2, hx375_3, hl375_1, hi375_1, hl375_2, hi375_2, hl375_3, hi375_3⟩ := at_T31 HR0.out x7_2 p375 q375
                    have hw375_3 := hx375_3
                    have hw375_2 := hx375_2
                    have hw375_1 := hx375_1
                    have hw375_0 := hx375_0
                    obtain rfl : ad355 = ad375 := (by injection e375)
                    replace hx375_0 := (HB.out.cell (World.block_lt_of_cell? w _ hx375_0)).trans hx375_0
                    replace hx375_1 := (HB.out.cell (World.block_lt_of_cell? w _ hx375_1)).trans hx375_1
                    replace hx375_2 := (HB.out.cell (World.block_lt_of_cell? w _ hx375_2)).trans hx375_2
                    replace hx375_3 := (HB.out.cell (World.block_lt_of_cell? w _ hx375_3)).trans hx375_3
                    have HR375_1 := aM hi375_1
                    have HC375_1 := aM hl375_1
                    clear hi375_1 hl375_1
                    have HR375_2 := aM hi375_2
                    have HC375_2 := aM hl375_2
                    clear hi375_2 hl375_2
                    have HR375_3 := aM hi375_3
                    have HC375_3 := aM hl375_3
                    clear hi375_3 hl375_3
                    replace p375 := eq_true p375
                    replace q375 := eq_true q375
                    refine start_ (n := 48) (S := fun w' => w'.cell? (ad355.add ((x7_2).toNat * 4)) = some (.int .i64 ((rd_T31 l0 x7_2).f0)) ∧ w'.cell? ⟨(ad355.add ((x7_2).toNat * 4)).block, (ad355.add ((x7_2).toNat * 4)).off + 1, none⟩ = some (.slice A355_1 ((rd_T31 l0 x7_2).f1).length c355_1) ∧ w'.cell? ⟨(ad355.add ((x7_2).toNat * 4)).block, (ad355.add ((x7_2).toNat * 4)).off + 2, none⟩ = some (.slice A355_2 ((rd_T31 l0 x7_2).f2).length c355_2) ∧ w'.cell? ⟨(ad355.add ((x7_2).toNat * 4)).block, (ad355.add ((x7_2).toNat * 4)).off + 3, none⟩ = some (.slice A355_3 ((rd_T31 l0 x7_2).f3).length c355_3) ∧ w'.cell? (ad355.add ((x7_2).toNat * 4)) = some (.int .i64 ((rd_T31 l0 x7_2).f0)) ∧ w'.cell? ⟨(ad355.add ((x7_2).toNat * 4)).block, (ad355.add ((x7_2).toNat * 4)).off + 1, none⟩ = some (.slice A367_1 ((rd_T31 l0 x7_2).f1).length c367_1) ∧ w'.cell? ⟨(ad355.add ((x7_2).toNat * 4)).block, (ad355.add ((x7_2).toNat * 4)).off + 2, none⟩ = some (.slice A367_2 ((rd_T31 l0 x7_2).f2).length c367_2) ∧ w'.cell? ⟨(ad355.add ((x7_2).toNat * 4)).block, (ad355.add ((x7_2).toNat * 4)).off + 3, none⟩ = some (.slice A367_3 ((rd_T31 l0 x7_2).f3).length c367_3) ∧ w'.cell? (ad371.add ((x7_2).toNat * 4)) = some (.int .i64 ((rd_T31 t329 x7_2).f0)) ∧ w'.cell? ⟨(ad371.add ((x7_2).toNat * 4)).block, (ad371.add ((x7_2).toNat * 4)).off + 1, none⟩ = some (.slice A371_1 ((rd_T31 t329 x7_2).f1).length c371_1) ∧ w'.cell? ⟨(ad371.add ((x7_2).toNat * 4)).block, (ad371.add ((x7_2).toNat * 4)).off + 2, none⟩ = some (.slice A371_2 ((rd_T31 t329 x7_2).f2).length c371_2) ∧ w'.cell? ⟨(ad371.add ((x7_2).toNat * 4)).block, (ad371.add ((x7_2).toNat * 4)).off + 3, none⟩ = some (.slice A371_3 ((rd_T31 t329 x7_2).f3).length c371_3) ∧ w'.cell? (ad355.add ((x7_2).toNat * 4)) = some (.int .i64 ((rd_T31 l0 x7_2).f0)) ∧ w'.cell? ⟨(ad355.add ((x7_2).toNat * 4)).block, (ad355.add ((x7_2).toNat * 4)).off + 1, none⟩ = some (.slice A372_1 ((rd_T31 l0 x7_2).f1).length c372_1) ∧ w'.cell? ⟨(ad355.add ((x7_2).toNat * 4)).block, (ad355.add ((x7_2).toNat * 4)).off + 2, none⟩ = some (.slice A372_2 ((rd_T31 l0 x7_2).f2).length c372_2) ∧ w'.cell? ⟨(ad355.add ((x7_2).toNat * 4)).block, (ad355.add ((x7_2).toNat * 4)).off + 3, none⟩ = some (.slice A372_3 ((rd_T31 l0 x7_2).f3).length c372_3) ∧ w'.cell? (ad371.add ((x7_2).toNat * 4)) = some (.int .i64 ((rd_T31 t329 x7_2).f0)) ∧ w'.cell? ⟨(ad371.add ((x7_2).toNat * 4)).block, (ad371.add ((x7_2).toNat * 4)).off + 1, none⟩ = some (.slice A374_1 ((rd_T31 t329 x7_2).f1).length c374_1) ∧ w'.cell? ⟨(ad371.add ((x7_2).toNat * 4)).block, (ad371.add ((x7_2).toNat * 4)).off + 2, none⟩ = some (.slice A374_2 ((rd_T31 t329 x7_2).f2).length c374_2) ∧ w'.cell? ⟨(ad371.add ((x7_2).toNat * 4)).block, (ad371.add ((x7_2).toNat * 4)).off + 3, none⟩ = some (.slice A374_3 ((rd_T31 t329 x7_2).f3).length c374_3) ∧ w'.cell? (ad355.add ((x7_2).toNat * 4)) = some (.int .i64 ((rd_T31 l0 x7_2).f0)) ∧ w'.cell? ⟨(ad355.add ((x7_2).toNat * 4)).block, (ad355.add ((x7_2).toNat * 4)).off + 1, none⟩ = some (.slice A375_1 ((rd_T31 l0 x7_2).f1).length c375_1) ∧ w'.cell? ⟨(ad355.add ((x7_2).toNat * 4)).block, (ad355.add ((x7_2).toNat * 4)).off + 2, none⟩ = some (.slice A375_2 ((rd_T31 l0 x7_2).f2).length c375_2) ∧ w'.cell? ⟨(ad355.add ((x7_2).toNat * 4)).block, (ad355.add ((x7_2).toNat * 4)).off + 3, none⟩ = some (.slice A375_3 ((rd_T31 l0 x7_2).f3).length c375_3)) (ds := []) #[false, false, false, false, false, false, false, false, false, false, false, false, false, false, false, false, false, false, false, false, false, false, false, false, false, false, false, false, false, false, false, false, false, false, false, false, false, false, false, false, false, false, false, false, false, false, false, false] (by kernel_rfl) rfl rfl ⟨((HB.out.cell (World.block_lt_of_cell? w _ hw355_0)).trans hw355_0), ((HB.out.cell (World.block_lt_of_cell? w _ hw355_1)).trans hw355_1), ((HB.out.cell (World.block_lt_of_cell? w _ hw355_2)).trans hw355_2), ((HB.out.cell (World.block_lt_of_cell? w _ hw355_3)).trans hw355_3), ((HB.out.cell (World.block_lt_of_cell? w _ hw367_0)).trans hw367_0), ((HB.out.cell (World.block_lt_of_cell? w _ hw367_1)).trans hw367_1), ((HB.out.cell (World.block_lt_of_cell? w _ hw367_2)).trans hw367_2), ((HB.out.cell (World.block_lt_of_cell? w _ hw367_3)).trans hw367_3), hx371_0, hx371_1, hx371_2, hx371_3, ((HB.out.cell (World.block_lt_of_cell? w _ hw372_0)).trans hw372_0), ((HB.out.cell (World.block_lt_of_cell? w _ hw372_1)).trans hw372_1), ((HB.out.cell (World.block_lt_of_cell? w _ hw372_2)).trans hw372_2), ((HB.out.cell (World.block_lt_of_cell? w _ hw372_3)).trans hw372_3), hx374_0, hx374_1, hx374_2, hx374_3, ((HB.out.cell (World.block_lt_of_cell? w _ hw375_0)).trans hw375_0), ((HB.out.cell (World.block_lt_of_cell? w _ hw375_1)).trans hw375_1), ((HB.out.cell (World.block_lt_of_cell? w _ hw375_2)).trans hw375_2), ((HB.out.cell (World.block_lt_of_cell? w _ hw375_3)).trans hw375_3)⟩ (fun hHeld => ?_); refine with_tabW mapmakerlaw26_GeneralizeKeeps.tab19 mapmakerlaw26_GeneralizeKeeps.bits19 (fun HT_ HW_ => ?_)
                    generalize wc.drew = w115 at HO_5 HO_6 HB HL371_1 HL371_2 HL371_3 HL374_1 HL374_2 HL374_3 HR355_1 HR355_2 HR355_3 HR367_1 HR367_2 HR367_3 HR371_1 HR371_2 HR371_3 HR372_1 HR372_2 HR372_3 HR374_1 HR374_2 HR374_3 HR375_1 HR375_2 HR375_3 hx355_0 hx355_1 hx355_2 hx355_3 hx367_0 hx367_1 hx367_2 hx367_3 hx371_0 hx371_1 hx371_2 hx371_3 hx372_0 hx372_1 hx372_2 hx372_3 hx374_0 hx374_1 hx374_2 hx374_3 hx375_0 hx375_1 hx375_2 hx375_3 hHeld ⊢
                    refine pure_ (i := 0) (N := some 120) (v := ?_) (a' := ?_) (ba 48 1) rfl rfl (any_of HT_.out (by kernel_rfl)) (fun _ _ _ h => h) (Or.inl ⟨by rfl, ?_⟩) ?_ ?_
                    rotate_left
                    ·intro w'
                     go_simp
                     with_reducible rfl
                    rotate_left
                    ·simp only [Act.put, sA, sB, sC, i64_w, i32_w]
                     rfl
                    refine pure_ (i := 1) (N := some 121) (v := ?_) (a' := ?_) (ba 48 3) rfl rfl (any_of HT_.out (by kernel_rfl)) (fun _ _ _ h => h) (Or.inl ⟨by rfl, ?_⟩) ?_ ?_
                    rotate_left
                    ·intro w'
                     go_simp
                     with_reducible rfl
                    rotate_left
                    ·simp only [Act.put, sA, sB, sC, i64_w, i32_w]
                     rfl
                    refine pure_ (i := 2) (N := some 122) (v := ?_) (a' := ?_) (ba 48 7) rfl rfl (any_of HT_.out (by kernel_rfl)) (fun _ _ _ h => h) (Or.inl ⟨by rfl, ?_⟩) ?_ ?_
                    rotate_left
                    ·intro w'
                     go_simp
                     with_reducible rfl
                    rotate_left
                    ·simp only [Act.put, sA, sB, sC, i64_w, i32_w]
                     rfl
                    refine take_ (i := 3) (N := some 123) (v := ?_) (a' := ?_) (ba 48 15) rfl rfl (take_ofW HT_.out HW_.out (by kernel_rfl)) (fun _ _ _ h => h) (Or.inl ⟨by rfl, ?_⟩) hHeld ?_ ?_
                    rotate_left
                    ·rintro w' ⟨s0, s1, s2, s3, s4, s5, s6, s7, s8, s9, s10, s11, s12, s13, s14, s15, s16, s17, s18, s19, s20, s21, s22, s23⟩
                     go_simp
                     with_reducible rfl
                    rotate_left
                    ·simp only [Act.put, sA, sB, sC, i64_w, i32_w]
                     rfl
                    refine one_ (i := 4) (N := some 124) (ba 48 31) rfl rfl (one_of HT_.out (by kernel_rfl)) (by decide) (fun K hK => ?_)
                    refine goes_ Try.func18 (by kernel_rfl) rfl #[.agg #[.int .i64 ((rd_T31 l0 x7_2).f0), .slice A355_1 ((rd_T31 l0 x7_2).f1).length c355_1, .slice A355_2 ((rd_T31 l0 x7_2).f2).length c355_2, .slice A355_3 ((rd_T31 l0 x7_2).f3).length c355_3]] (by rfl) rfl rfl (by (try simp only [List.map_toArray, List.map_cons, List.map_nil]); first | done | rfl | (simp only [List.length_drop, List.length_take]; rfl)) ?_
                    with_reducible refine (mapmakerref26_Good.calls kj19 ((rd_T31 l0 x7_2).f0) _ _ ((rd_T31 l0 x7_2).f1) _ _ ((rd_T31 l0 x7_2).f2) _ _ ((rd_T31 l0 x7_2).f3) false _ ?side1 ?side2 ?side3 ?side4 ?side5 ?side6 A63.out).mono ?_
                    (case side1 => repeat (first | exact (Kd.C_below HR355_1.out HB.out) | (with_reducible refine cA ?_ _) | (with_reducible refine cN ?_ _) | (with_reducible refine cD ?_)))
                    (case side2 => exact HC355_1.out)
                    (case side3 => repeat (first | exact (Kd.C_below HR355_2.out HB.out) | (with_reducible refine cA ?_ _) | (with_reducible refine cN ?_ _) | (with_reducible refine cD ?_)))
                    (case side4 => exact HC355_2.out)
                    (case side5 => repeat (first | exact (Kd.C_below HR355_3.out HB.out) | (with_reducible refine cA ?_ _) | (with_reducible refine cN ?_ _) | (with_reducible refine cD ?_)))
                    (case side6 => exact HC355_3.out)
                    rintro e w116 ⟨rfl, hb⟩
                    have HS8_ := (hb.cell (World.block_lt_of_cell? _ _ (hHeld.2.2.2.2.2.2.2.2.1))).trans (hHeld.2.2.2.2.2.2.2.2.1)
                    have HS9_ := (hb.cell (World.block_lt_of_cell? _ _ (hHeld.2.2.2.2.2.2.2.2.2.1))).trans (hHeld.2.2.2.2.2.2.2.2.2.1)
                    have HS10_ := (hb.cell (World.block_lt_of_cell? _ _ (hHeld.2.2.2.2.2.2.2.2.2.2.1))).trans (hHeld.2.2.2.2.2.2.2.2.2.2.1)
                    have HS11_ := (hb.cell (World.block_lt_of_cell? _ _ (hHeld.2.2.2.2.2.2.2.2.2.2.2.1))).trans (hHeld.2.2.2.2.2.2.2.2.2.2.2.1)
                    have HS16_ := (hb.cell (World.block_lt_of_cell? _ _ (hHeld.2.2.2.2.2.2.2.2.2.2.2.2.2.2.2.2.1))).trans (hHeld.2.2.2.2.2.2.2.2.2.2.2.2.2.2.2.2.1)
                    have HS17_ := (hb.cell (World.block_lt_of_cell? _ _ (hHeld.2.2.2.2.2.2.2.2.2.2.2.2.2.2.2.2.2.1))).trans (hHeld.2.2.2.2.2.2.2.2.2.2.2.2.2.2.2.2.2.1)
                    have HS18_ := (hb.cell (World.block_lt_of_cell? _ _ (hHeld.2.2.2.2.2.2.2.2.2.2.2.2.2.2.2.2.2.2.1))).trans (hHeld.2.2.2.2.2.2.2.2.2.2.2.2.2.2.2.2.2.2.1)
                    have HS19_ := (hb.cell (World.block_lt_of_cell? _ _ (hHeld.2.2.2.2.2.2.2.2.2.2.2.2.2.2.2.2.2.2.2.1))).trans (hHeld.2.2.2.2.2.2.2.2.2.2.2.2.2.2.2.2.2.2.2.1)
                    refine ⟨_, rfl, ?_⟩
                    have n0_ := aM (Kd.N_below (by (with_reducible repeat (first | apply Kd.N_alloc | apply Kd.N_drewN | apply Kd.N_drew)); exact HO_5.out) hb)
                    have n1_ := aM (rB (rl HO_6) hb)
                    have n2_ := aM (bS (bl) hb)
                    have z0_ := aM (Kd.C_below HR371_1.out hb)
                    have z1_ := aM (Kd.C_below HR371_2.out hb)
                    have z2_ := aM (Kd.C_below HR371_3.out hb)
                    clear HR371_1 HR371_2 HR371_3 HO_5 HO_6 HB
                    have HR371_1 := z0_
                    have HR371_2 := z1_
                    have HR371_3 := z2_
                    clear z0_ z1_ z2_
                    have HO_5 := n0_
                    have HO_6 := n1_
                    have HB := n2_
                    clear n0_ n1_ n2_
                    (try clear hb)
                    (try clear hb2)
                    (try clear hk)
                    (try clear hi)
                    refine hK.out _ _ ⟨((HB.out.cell (World.block_lt_of_cell? w _ hw355_0)).trans hw355_0), ((HB.out.cell (World.block_lt_of_cell? w _ hw355_1)).trans hw355_1), ((HB.out.cell (World.block_lt_of_cell? w _ hw355_2)).trans hw355_2), ((HB.out.cell (World.block_lt_of_cell? w _ hw355_3)).trans hw355_3), ((HB.out.cell (World.block_lt_of_cell? w _ hw367_0)).trans hw367_0), ((HB.out.cell (World.block_lt_of_cell? w _ hw367_1)).trans hw367_1), ((HB.out.cell (World.block_lt_of_cell? w _ hw367_2)).trans hw367_2), ((HB.out.cell (World.block_lt_of_cell? w _ hw367_3)).trans hw367_3), HS8_, HS9_, HS10_, HS11_, ((HB.out.cell (World.block_lt_of_cell? w _ hw372_0)).trans hw372_0), ((HB.out.cell (World.block_lt_of_cell? w _ hw372_1)).trans hw372_1), ((HB.out.cell (World.block_lt_of_cell? w _ hw372_2)).trans hw372_2), ((HB.out.cell (World.block_lt_of_cell? w _ hw372_3)).trans hw372_3), HS16_, HS17_, HS18_, HS19_, ((HB.out.cell (World.block_lt_of_cell? w _ hw375_0)).trans hw375_0), ((HB.out.cell (World.block_lt_of_cell? w _ hw375_1)).trans hw375_1), ((HB.out.cell (World.block_lt_of_cell? w _ hw375_2)).trans hw375_2), ((HB.out.cell (World.block_lt_of_cell? w _ hw375_3)).trans hw375_3)⟩ (fun hHeld => ?_)
                    clear hK K
                    refine norm_ (a' := ?_) ?_ ?_
                    rotate_left
                    ·show Act.put _ (some 124) _ = _
                     simp only [Act.put, sA, sB, sC, i64_w, i32_w]
                     rfl
                    refine pure_ (i := 5) (N := some 125) (v := ?_) (a' := ?_) (ba 48 63) rfl rfl (any_of HT_.out (by kernel_rfl)) (fun _ _ _ h => h) (Or.inl ⟨by rfl, ?_⟩) ?_ ?_
                    rotate_left
                    ·intro w'
                     go_simp
                     with_reducible rfl
                    rotate_left
                    ·simp only [Act.put, sA, sB, sC, i64_w, i32_w]
                     rfl
                    refine pure_ (i := 6) (N := some 126) (v := undef) (a' := ?_) (ba 48 127) rfl rfl (any_of HT_.out (by kernel_rfl)) (fun _ _ _ h => h) (Or.inr ⟨by rfl, rfl⟩) ?_ ?_
                    rotate_left
                    ·simp only [Act.put, sA, sB, sC, i64_w, i32_w]
                     rfl
                    refine pure_ (i := 7) (N := some 127) (v := undef) (a' := ?_) (ba 48 255) rfl rfl (any_of HT_.out (by kernel_rfl)) (fun _ _ _ h => h) (Or.inr ⟨by rfl, rfl⟩) ?_ ?_
                    rotate_left
                    ·simp only [Act.put, sA, sB, sC, i64_w, i32_w]
                     rfl
                    refine pure_ (i := 8) (N := some 128) (v := undef) (a' := ?_) (ba 48 511) rfl rfl (any_of HT_.out (by kernel_rfl)) (fun _ _ _ h => h) (Or.inr ⟨by rfl, rfl⟩) ?_ ?_
                    rotate_left
                    ·simp only [Act.put, sA, sB, sC, i64_w, i32_w]
                     rfl
                    refine pure_ (i := 9) (N := some 129) (v := undef) (a' := ?_) (ba 48 1023) rfl rfl (any_of HT_.out (by kernel_rfl)) (fun _ _ _ h => h) (Or.inr ⟨by rfl, rfl⟩) ?_ ?_
                    rotate_left
                    ·simp only [Act.put, sA, sB, sC, i64_w, i32_w]
                     rfl
                    refine pure_ (i := 10) (N := some 130) (v := undef) (a' := ?_) (ba 48 2047) rfl rfl (any_of HT_.out (by kernel_rfl)) (fun _ _ _ h => h) (Or.inr ⟨by rfl, rfl⟩) ?_ ?_
                    rotate_left
                    ·simp only [Act.put, sA, sB, sC, i64_w, i32_w]
                     rfl
                    refine pure_ (i := 11) (N := some 131) (v := undef) (a' := ?_) (ba 48 4095) rfl rfl (any_of HT_.out (by kernel_rfl)) (fun _ _ _ h => h) (Or.inr ⟨by rfl, rfl⟩) ?_ ?_
                    rotate_left
                    ·simp only [Act.put, sA, sB, sC, i64_w, i32_w]
                     rfl
                    refine pure_ (i := 12) (N := some 132) (v := undef) (a' := ?_) (ba 48 8191) rfl rfl (any_of HT_.out (by kernel_rfl)) (fun _ _ _ h => h) (Or.inr ⟨by rfl, rfl⟩) ?_ ?_
                    rotate_left
                    ·simp only [Act.put, sA, sB, sC, i64_w, i32_w]
                     rfl
                    refine pure_ (i := 13) (N := some 133) (v := undef) (a' := ?_) (ba 48 16383) rfl rfl (any_of HT_.out (by kernel_rfl)) (fun _ _ _ h => h) (Or.inr ⟨by rfl, rfl⟩) ?_ ?_
                    rotate_left
                    ·simp only [Act.put, sA, sB, sC, i64_w, i32_w]
                     rfl
                    refine pure_ (i := 14) (N := some 134) (v := ?_) (a' := ?_) (ba 48 32767) rfl rfl (any_of HT_.out (by kernel_rfl)) (fun _ _ _ h => h) (Or.inl ⟨by rfl, ?_⟩) ?_ ?_
                    rotate_left
                    ·intro w'
                     go_simp
                     with_reducible rfl
                    rotate_left
                    ·simp only [Act.put, sA, sB, sC, i64_w, i32_w]
                     rfl
                    refine pure_ (i := 15) (N := some 135) (v := ?_) (a' := ?_) (ba 48 65535) rfl rfl (any_of HT_.out (by kernel_rfl)) (fun _ _ _ h => h) (Or.inl ⟨by rfl, ?_⟩) ?_ ?_
                    rotate_left
                    ·intro w'
                     go_simp
                     with_reducible rfl
                    rotate_left
                    ·simp only [Act.put, sA, sB, sC, i64_w, i32_w]
                     rfl
                    refine pure_ (i := 16) (N := some 136) (v := ?_) (a' := ?_) (ba 48 131071) rfl rfl (any_of HT_.out (by kernel_rfl)) (fun _ _ _ h => h) (Or.inl ⟨by rfl, ?_⟩) ?_ ?_
                    rotate_left
                    ·intro w'
                     go_simp
                     with_reducible rfl
                    rotate_left
                    ·simp only [Act.put, sA, sB, sC, i64_w, i32_w]
                     rfl
                    refine pure_ (i := 17) (N := some 137) (v := ?_) (a' := ?_) (ba 48 262143) rfl rfl (any_of HT_.out (by kernel_rfl)) (fun _ _ _ h => h) (Or.inl ⟨by rfl, ?_⟩) ?_ ?_
                    rotate_left
                    ·intro w'
                     go_simp
                     with_reducible rfl
                    rotate_left
                    ·simp only [Act.put, sA, sB, sC, i64_w, i32_w]
                     rfl
                    refine pure_ (i := 18) (N := some 138) (v := ?_) (a' := ?_) (ba 48 524287) rfl rfl (any_of HT_.out (by kernel_rfl)) (fun _ _ _ h => h) (Or.inl ⟨by rfl, ?_⟩) ?_ ?_
                    rotate_left
                    ·intro w'
                     go_simp
                     with_reducible rfl
                    rotate_left
                    ·simp only [Act.put, sA, sB, sC, i64_w, i32_w]
                     rfl
                    refine take_ (i := 19) (N := some 139) (v := ?_) (a' := ?_) (ba 48 1048575) rfl rfl (take_ofW HT_.out HW_.out (by kernel_rfl)) (fun _ _ _ h => h) (Or.inl ⟨by rfl, ?_⟩) hHeld ?_ ?_
                    rotate_left
                    ·rintro w' ⟨s0, s1, s2, s3, s4, s5, s6, s7, s8, s9, s10, s11, s12, s13, s14, s15, s16, s17, s18, s19, s20, s21, s22, s23⟩
                     go_simp
                     with_reducible rfl
                    rotate_left
                    ·simp only [Act.put, sA, sB, sC, i64_w, i32_w]
                     rfl
                    refine one_ (i := 20) (N := some 140) (ba 48 2097151) rfl rfl (one_of HT_.out (by kernel_rfl)) (by decide) (fun K hK => ?_)
                    refine goes_ Try.func18 (by kernel_rfl) rfl #[.agg #[.int .i64 ((rd_T31 l0 x7_2).f0), .slice A355_1 ((rd_T31 l0 x7_2).f1).length c355_1, .slice A355_2 ((rd_T31 l0 x7_2).f2).length c355_2, .slice A355_3 ((rd_T31 l0 x7_2).f3).length c355_3]] (by rfl) rfl rfl (by (try simp only [List.map_toArray, List.map_cons, List.map_nil]); first | done | rfl | (simp only [List.length_drop, List.length_take]; rfl)) ?_
                    with_reducible refine (mapmakerref26_Good.calls kj19 ((rd_T31 l0 x7_2).f0) _ _ ((rd_T31 l0 x7_2).f1) _ _ ((rd_T31 l0 x7_2).f2) _ _ ((rd_T31 l0 x7_2).f3) false _ ?side1 ?side2 ?side3 ?side4 ?side5 ?side6 A99.out).mono ?_
                    (case side1 => repeat (first | exact (Kd.C_below HR355_1.out HB.out) | (with_reducible refine cA ?_ _) | (with_reducible refine cN ?_ _) | (with_reducible refine cD ?_)))
                    (case side2 => exact HC355_1.out)
                    (case side3 => repeat (first | exact (Kd.C_below HR355_2.out HB.out) | (with_reducible refine cA ?_ _) | (with_reducible refine cN ?_ _) | (with_reducible refine cD ?_)))
                    (case side4 => exact HC355_2.out)
                    (case side5 => repeat (first | exact (Kd.C_below HR355_3.out HB.out) | (with_reducible refine cA ?_ _) | (with_reducible refine cN ?_ _) | (with_reducible refine cD ?_)))
                    (case side6 => exact HC355_3.out)
                    rintro e w117 ⟨rfl, hb⟩
                    have HS8_ := (hb.cell (World.block_lt_of_cell? _ _ (hHeld.2.2.2.2.2.2.2.2.1))).trans (hHeld.2.2.2.2.2.2.2.2.1)
                    have HS9_ := (hb.cell (World.block_lt_of_cell? _ _ (hHeld.2.2.2.2.2.2.2.2.2.1))).trans (hHeld.2.2.2.2.2.2.2.2.2.1)
                    have HS10_ := (hb.cell (World.block_lt_of_cell? _ _ (hHeld.2.2.2.2.2.2.2.2.2.2.1))).trans (hHeld.2.2.2.2.2.2.2.2.2.2.1)
                    have HS11_ := (hb.cell (World.block_lt_of_cell? _ _ (hHeld.2.2.2.2.2.2.2.2.2.2.2.1))).trans (hHeld.2.2.2.2.2.2.2.2.2.2.2.1)
                    have HS16_ := (hb.cell (World.block_lt_of_cell? _ _ (hHeld.2.2.2.2.2.2.2.2.2.2.2.2.2.2.2.2.1))).trans (hHeld.2.2.2.2.2.2.2.2.2.2.2.2.2.2.2.2.1)
                    have HS17_ := (hb.cell (World.block_lt_of_cell? _ _ (hHeld.2.2.2.2.2.2.2.2.2.2.2.2.2.2.2.2.2.1))).trans (hHeld.2.2.2.2.2.2.2.2.2.2.2.2.2.2.2.2.2.1)
                    have HS18_ := (hb.cell (World.block_lt_of_cell? _ _ (hHeld.2.2.2.2.2.2.2.2.2.2.2.2.2.2.2.2.2.2.1))).trans (hHeld.2.2.2.2.2.2.2.2.2.2.2.2.2.2.2.2.2.2.1)
                    have HS19_ := (hb.cell (World.block_lt_of_cell? _ _ (hHeld.2.2.2.2.2.2.2.2.2.2.2.2.2.2.2.2.2.2.2.1))).trans (hHeld.2.2.2.2.2.2.2.2.2.2.2.2.2.2.2.2.2.2.2.1)
                    refine ⟨_, rfl, ?_⟩
                    have n0_ := aM (Kd.N_below (by (with_reducible repeat (first | apply Kd.N_alloc | apply Kd.N_drewN | apply Kd.N_drew)); exact HO_5.out) hb)
                    have n1_ := aM (rB (rl HO_6) hb)
                    have n2_ := aM (bS (bl) hb)
                    have z0_ := aM (Kd.C_below HR371_1.out hb)
                    have z1_ := aM (Kd.C_below HR371_2.out hb)
                    have z2_ := aM (Kd.C_below HR371_3.out hb)
                    clear HR371_1 HR371_2 HR371_3 HO_5 HO_6 HB
                    have HR371_1 := z0_
                    have HR371_2 := z1_
                    have HR371_3 := z2_
                    clear z0_ z1_ z2_
                    have HO_5 := n0_
                    have HO_6 := n1_
                    have HB := n2_
                    clear n0_ n1_ n2_
                    (try clear hb)
                    (try clear hb2)
                    (try clear hk)
                    (try clear hi)
                    obtain ⟨Ao118, co118, eo118⟩ := Kd.N_slice HO_5.out
                    (first | subst eo118 | (injection eo118 with f1_ f2_ f3_; have f4_ := f1_.symm; have f5_ := f3_.symm; clear f1_ f2_ f3_; subst f4_; subst f5_))
                    refine hK.out _ _ ⟨((HB.out.cell (World.block_lt_of_cell? w _ hw355_0)).trans hw355_0), ((HB.out.cell (World.block_lt_of_cell? w _ hw355_1)).trans hw355_1), ((HB.out.cell (World.block_lt_of_cell? w _ hw355_2)).trans hw355_2), ((HB.out.cell (World.block_lt_of_cell? w _ hw355_3)).trans hw355_3), ((HB.out.cell (World.block_lt_of_cell? w _ hw367_0)).trans hw367_0), ((HB.out.cell (World.block_lt_of_cell? w _ hw367_1)).trans hw367_1), ((HB.out.cell (World.block_lt_of_cell? w _ hw367_2)).trans hw367_2), ((HB.out.cell (World.block_lt_of_cell? w _ hw367_3)).trans hw367_3), HS8_, HS9_, HS10_, HS11_, ((HB.out.cell (World.block_lt_of_cell? w _ hw372_0)).trans hw372_0), ((HB.out.cell (World.block_lt_of_cell? w _ hw372_1)).trans hw372_1), ((HB.out.cell (World.block_lt_of_cell? w _ hw372_2)).trans hw372_2), ((HB.out.cell (World.block_lt_of_cell? w _ hw372_3)).trans hw372_3), HS16_, HS17_, HS18_, HS19_, ((HB.out.cell (World.block_lt_of_cell? w _ hw375_0)).trans hw375_0), ((HB.out.cell (World.block_lt_of_cell? w _ hw375_1)).trans hw375_1), ((HB.out.cell (World.block_lt_of_cell? w _ hw375_2)).trans hw375_2), ((HB.out.cell (World.block_lt_of_cell? w _ hw375_3)).trans hw375_3)⟩ (fun hHeld => ?_)
                    clear hK K
                    refine norm_ (a' := ?_) ?_ ?_
                    rotate_left
                    ·show Act.put _ (some 140) _ = _
                     simp only [Act.put, sA, sB, sC, i64_w, i32_w]
                     rfl
                    refine pure_ (i := 21) (N := some 141) (v := ?_) (a' := ?_) (ba 48 4194303) rfl rfl (any_of HT_.out (by kernel_rfl)) (fun _ _ _ h => h) (Or.inl ⟨by rfl, ?_⟩) ?_ ?_
                    rotate_left
                    ·intro w'
                     go_simp
                     with_reducible rfl
                    rotate_left
                    ·simp only [Act.put, sA, sB, sC, i64_w, i32_w]
                     rfl
                    refine pure_ (i := 22) (N := some 142) (v := ?_) (a' := ?_) (ba 48 8388607) rfl rfl (any_of HT_.out (by kernel_rfl)) (fun _ _ _ h => h) (Or.inl ⟨by rfl, ?_⟩) ?_ ?_
                    rotate_left
                    ·intro w'
                     go_simp
                     with_reducible rfl
                    rotate_left
                    ·simp only [Act.put, sA, sB, sC, i64_w, i32_w]
                     rfl
                    refine pure_ (i := 23) (N := some 143) (v := ?_) (a' := ?_) (ba 48 16777215) rfl rfl (any_of HT_.out (by kernel_rfl)) (fun _ _ _ h => h) (Or.inl ⟨by rfl, ?_⟩) ?_ ?_
                    rotate_left
                    ·intro w'
                     go_simp
                     with_reducible rfl
                    rotate_left
                    ·simp only [Act.put, sA, sB, sC, i64_w, i32_w]
                     rfl
                    refine pure_ (i := 24) (N := some 144) (v := ?_) (a' := ?_) (ba 48 33554431) rfl rfl (any_of HT_.out (by kernel_rfl)) (fun _ _ _ h => h) (Or.inl ⟨by rfl, ?_⟩) ?_ ?_
                    rotate_left
                    ·intro w'
                     go_simp
                     with_reducible rfl
                    rotate_left
                    ·simp only [Act.put, sA, sB, sC, i64_w, i32_w]
                     rfl
                    refine pure_ (i := 25) (N := some 145) (v := ?_) (a' := ?_) (ba 48 67108863) rfl rfl (any_of HT_.out (by kernel_rfl)) (fun _ _ _ h => h) (Or.inl ⟨by rfl, ?_⟩) ?_ ?_
                    rotate_left
                    ·intro w'
                     go_simp
                     with_reducible rfl
                    rotate_left
                    ·simp only [Act.put, sA, sB, sC, i64_w, i32_w]
                     rfl
                    refine pure_ (i := 27) (N := some 147) (v := ?_) (a' := ?_) (ba 48 201326591) rfl rfl (any_of HT_.out (by kernel_rfl)) (fun _ _ _ h => h) (Or.inl ⟨by rfl, ?_⟩) ?_ ?_
                    rotate_left
                    ·intro w'
                     go_simp
                     with_reducible rfl
                    rotate_left
                    ·simp only [Act.put, sA, sB, sC, i64_w, i32_w]
                     rfl
                    refine pure_ (i := 28) (N := some 148) (v := ?_) (a' := ?_) (ba 48 469762047) rfl rfl (any_of HT_.out (by kernel_rfl)) (fun _ _ _ h => h) (Or.inl ⟨by rfl, ?_⟩) ?_ ?_
                    rotate_left
                    ·intro w'
                     go_simp
                     with_reducible rfl
                    rotate_left
                    ·simp only [Act.put, sA, sB, sC, i64_w, i32_w]
                     rfl
                    refine pure_ (i := 29) (N := some 149) (v := ?_) (a' := ?_) (ba 48 1006632959) rfl rfl (any_of HT_.out (by kernel_rfl)) (fun _ _ _ h => h) (Or.inl ⟨by rfl, ?_⟩) ?_ ?_
                    rotate_left
                    ·intro w'
                     go_simp
                     with_reducible rfl
                    rotate_left
                    ·simp only [Act.put, sA, sB, sC, i64_w, i32_w]
                     rfl
                    refine take_ (i := 26) (N := some 146) (v := ?_) (a' := ?_) (ba 48 1073741823) rfl rfl (take_ofW HT_.out HW_.out (by kernel_rfl)) (fun _ _ _ h => h) (Or.inl ⟨by rfl, ?_⟩) hHeld ?_ ?_
                    rotate_left
                    ·rintro w' ⟨s0, s1, s2, s3, s4, s5, s6, s7, s8, s9, s10, s11, s12, s13, s14, s15, s16, s17, s18, s19, s20, s21, s22, s23⟩
                     go_simp
                     with_reducible rfl
                    rotate_left
                    ·simp only [Act.put, sA, sB, sC, i64_w, i32_w]
                     rfl
                    refine take_ (i := 30) (N := some 150) (v := ?_) (a' := ?_) (ba 48 2147483647) rfl rfl (take_ofW HT_.out HW_.out (by kernel_rfl)) (fun _ _ _ h => h) (Or.inl ⟨by rfl, ?_⟩) hHeld ?_ ?_
                    rotate_left
                    ·rintro w' ⟨s0, s1, s2, s3, s4, s5, s6, s7, s8, s9, s10, s11, s12, s13, s14, s15, s16, s17, s18, s19, s20, s21, s22, s23⟩
                     go_simp
                     with_reducible rfl
                    rotate_left
                    ·simp only [Act.put, sA, sB, sC, i64_w, i32_w]
                     rfl
                    refine one_ (i := 31) (N := some 151) (ba 48 4294967295) rfl rfl (one_of HT_.out (by kernel_rfl)) (by decide) (fun K hK => ?_)
                    refine goes_ Try.func12 (by kernel_rfl) rfl #[.agg #[.int .i64 ((rd_T31 t329 x7_2).f0), .slice A371_1 ((rd_T31 t329 x7_2).f1).length c371_1, .slice A371_2 ((rd_T31 t329 x7_2).f2).length c371_2, .slice A371_3 ((rd_T31 t329 x7_2).f3).length c371_3], .agg #[.int .i64 ((rd_T31 l0 x7_2).f0), .slice A355_1 ((rd_T31 l0 x7_2).f1).length c355_1, .slice A355_2 ((rd_T31 l0 x7_2).f2).length c355_2, .slice A355_3 ((rd_T31 l0 x7_2).f3).length c355_3]] (by rfl) rfl rfl (by (try simp only [List.map_toArray, List.map_cons, List.map_nil]); first | done | rfl | (simp only [List.length_drop, List.length_take]; rfl)) ?_
                    with_reducible refine (mapmakerlaw26_same.calls kj19 ((rd_T31 t329 x7_2).f0) _ _ ((rd_T31 t329 x7_2).f1) _ _ ((rd_T31 t329 x7_2).f2) _ _ ((rd_T31 t329 x7_2).f3) ((rd_T31 l0 x7_2).f0) _ _ ((rd_T31 l0 x7_2).f1) _ _ ((rd_T31 l0 x7_2).f2) _ _ ((rd_T31 l0 x7_2).f3) true _ ?side1 ?side2 ?side3 ?side4 ?side5 ?side6 ?side7 ?side8 ?side9 ?side10 ?side11 ?side12 A112.out).mono ?_
                    (case side1 => repeat (first | exact (by repeat (first | (with_reducible exact HR371_1.out) | (with_reducible refine cA ?_ _) | (with_reducible refine cN ?_ _) | (with_reducible refine cD ?_) | exact HR371_1.out)) | (with_reducible refine cA ?_ _) | (with_reducible refine cN ?_ _) | (with_reducible refine cD ?_)))
                    (case side2 => exact HC371_1.out)
                    (case side3 => repeat (first | exact (by repeat (first | (with_reducible exact HR371_2.out) | (with_reducible refine cA ?_ _) | (with_reducible refine cN ?_ _) | (with_reducible refine cD ?_) | exact HR371_2.out)) | (with_reducible refine cA ?_ _) | (with_reducible refine cN ?_ _) | (with_reducible refine cD ?_)))
                    (case side4 => exact HC371_2.out)
                    (case side5 => repeat (first | exact (by repeat (first | (with_reducible exact HR371_3.out) | (with_reducible refine cA ?_ _) | (with_reducible refine cN ?_ _) | (with_reducible refine cD ?_) | exact HR371_3.out)) | (with_reducible refine cA ?_ _) | (with_reducible refine cN ?_ _) | (with_reducible refine cD ?_)))
                    (case side6 => exact HC371_3.out)
                    (case side7 => repeat (first | exact (Kd.C_below HR355_1.out HB.out) | (with_reducible refine cA ?_ _) | (with_reducible refine cN ?_ _) | (with_reducible refine cD ?_)))
                    (case side8 => exact HC355_1.out)
                    (case side9 => repeat (first | exact (Kd.C_below HR355_2.out HB.out) | (with_reducible refine cA ?_ _) | (with_reducible refine cN ?_ _) | (with_reducible refine cD ?_)))
                    (case side10 => exact HC355_2.out)
                    (case side11 => repeat (first | exact (Kd.C_below HR355_3.out HB.out) | (with_reducible refine cA ?_ _) | (with_reducible refine cN ?_ _) | (with_reducible refine cD ?_)))
                    (case side12 => exact HC355_3.out)
                    rintro e w119 ⟨rfl, hb⟩
                    have HS8_ := (hb.cell (World.block_lt_of_cell? _ _ (hHeld.2.2.2.2.2.2.2.2.1))).trans (hHeld.2.2.2.2.2.2.2.2.1)
                    have HS9_ := (hb.cell (World.block_lt_of_cell? _ _ (hHeld.2.2.2.2.2.2.2.2.2.1))).trans (hHeld.2.2.2.2.2.2.2.2.2.1)
                    have HS10_ := (hb.cell (World.block_lt_of_cell? _ _ (hHeld.2.2.2.2.2.2.2.2.2.2.1))).trans (hHeld.2.2.2.2.2.2.2.2.2.2.1)
                    have HS11_ := (hb.cell (World.block_lt_of_cell? _ _ (hHeld.2.2.2.2.2.2.2.2.2.2.2.1))).trans (hHeld.2.2.2.2.2.2.2.2.2.2.2.1)
                    have HS16_ := (hb.cell (World.block_lt_of_cell? _ _ (hHeld.2.2.2.2.2.2.2.2.2.2.2.2.2.2.2.2.1))).trans (hHeld.2.2.2.2.2.2.2.2.2.2.2.2.2.2.2.2.1)
                    have HS17_ := (hb.cell (World.block_lt_of_cell? _ _ (hHeld.2.2.2.2.2.2.2.2.2.2.2.2.2.2.2.2.2.1))).trans (hHeld.2.2.2.2.2.2.2.2.2.2.2.2.2.2.2.2.2.1)
                    have HS18_ := (hb.cell (World.block_lt_of_cell? _ _ (hHeld.2.2.2.2.2.2.2.2.2.2.2.2.2.2.2.2.2.2.1))).trans (hHeld.2.2.2.2.2.2.2.2.2.2.2.2.2.2.2.2.2.2.1)
                    have HS19_ := (hb.cell (World.block_lt_of_cell? _ _ (hHeld.2.2.2.2.2.2.2.2.2.2.2.2.2.2.2.2.2.2.2.1))).trans (hHeld.2.2.2.2.2.2.2.2.2.2.2.2.2.2.2.2.2.2.2.1)
                    refine ⟨_, rfl, ?_⟩
                    replace HO_5 := aM (Kd.N_below (by (with_reducible repeat (first | apply Kd.N_alloc | apply Kd.N_drewN | apply Kd.N_drew)); exact HO_5.out) hb)
                    replace HO_6 := aM (rB (rl HO_6) hb)
                    replace HR371_1 := aM (Kd.C_below (by repeat (first | (with_reducible exact HR371_1.out) | (with_reducible refine cA ?_ _) | (with_reducible refine cN ?_ _) | (with_reducible refine cD ?_) | exact HR371_1.out | exact (Kd.V_reads' HL371_1.out).2.2)) hb)
                    replace HR371_2 := aM (Kd.C_below (by repeat (first | (with_reducible exact HR371_2.out) | (with_reducible refine cA ?_ _) | (with_reducible refine cN ?_ _) | (with_reducible refine cD ?_) | exact HR371_2.out | exact (Kd.V_reads' HL371_2.out).2.2)) hb)
                    replace HR371_3 := aM (Kd.C_below (by repeat (first | (with_reducible exact HR371_3.out) | (with_reducible refine cA ?_ _) | (with_reducible refine cN ?_ _) | (with_reducible refine cD ?_) | exact HR371_3.out | exact (Kd.V_reads' HL371_3.out).2.2)) hb)
                    replace HB := aM (bS (bl) hb)
                    (try clear hb)
                    (try clear hb2)
                    (try clear hk)
                    (try clear hi)
                    refine hK.out _ _ ⟨((HB.out.cell (World.block_lt_of_cell? w _ hw355_0)).trans hw355_0), ((HB.out.cell (World.block_lt_of_cell? w _ hw355_1)).trans hw355_1), ((HB.out.cell (World.block_lt_of_cell? w _ hw355_2)).trans hw355_2), ((HB.out.cell (World.block_lt_of_cell? w _ hw355_3)).trans hw355_3), ((HB.out.cell (World.block_lt_of_cell? w _ hw367_0)).trans hw367_0), ((HB.out.cell (World.block_lt_of_cell? w _ hw367_1)).trans hw367_1), ((HB.out.cell (World.block_lt_of_cell? w _ hw367_2)).trans hw367_2), ((HB.out.cell (World.block_lt_of_cell? w _ hw367_3)).trans hw367_3), HS8_, HS9_, HS10_, HS11_, ((HB.out.cell (World.block_lt_of_cell? w _ hw372_0)).trans hw372_0), ((HB.out.cell (World.block_lt_of_cell? w _ hw372_1)).trans hw372_1), ((HB.out.cell (World.block_lt_of_cell? w _ hw372_2)).trans hw372_2), ((HB.out.cell (World.block_lt_of_cell? w _ hw372_3)).trans hw372_3), HS16_, HS17_, HS18_, HS19_, ((HB.out.cell (World.block_lt_of_cell? w _ hw375_0)).trans hw375_0), ((HB.out.cell (World.block_lt_of_cell? w _ hw375_1)).trans hw375_1), ((HB.out.cell (World.block_lt_of_cell? w _ hw375_2)).trans hw375_2), ((HB.out.cell (World.block_lt_of_cell? w _ hw375_3)).trans hw375_3)⟩ (fun hHeld => ?_)
                    clear hK K
                    refine norm_ (a' := ?_) ?_ ?_
                    rotate_left
                    ·show Act.put _ (some 151) _ = _
                     simp only [Act.put, sA, sB, sC, i64_w, i32_w]
                     rfl
                    refine pure_ (i := 32) (N := some 152) (v := ?_) (a' := ?_) (ba 48 8589934591) rfl rfl (any_of HT_.out (by kernel_rfl)) (fun _ _ _ h => h) (Or.inl ⟨by rfl, ?_⟩) ?_ ?_
                    rotate_left
                    ·intro w'
                     go_simp
                     with_reducible rfl
                    rotate_left
                    ·simp only [Act.put, sA, sB, sC, i64_w, i32_w]
                     rfl
                    refine pure_ (i := 33) (N := some 153) (v := ?_) (a' := ?_) (ba 48 17179869183) rfl rfl (any_of HT_.out (by kernel_rfl)) (fun _ _ _ h => h) (Or.inl ⟨by rfl, ?_⟩) ?_ ?_
                    rotate_left
                    ·intro w'
                     go_simp
                     with_reducible rfl
                    rotate_left
                    ·simp only [Act.put, sA, sB, sC, i64_w, i32_w]
                     rfl
                    refine pure_ (i := 34) (N := some 154) (v := ?_) (a' := ?_) (ba 48 34359738367) rfl rfl (any_of HT_.out (by kernel_rfl)) (fun _ _ _ h => h) (Or.inl ⟨by rfl, ?_⟩) ?_ ?_
                    rotate_left
                    ·intro w'
                     go_simp
                     with_reducible rfl
                    rotate_left
                    ·simp only [Act.put, sA, sB, sC, i64_w, i32_w]
                     rfl
                    refine pure_ (i := 35) (N := some 155) (v := ?_) (a' := ?_) (ba 48 68719476735) rfl rfl (any_of HT_.out (by kernel_rfl)) (fun _ _ _ h => h) (Or.inl ⟨by rfl, ?_⟩) ?_ ?_
                    rotate_left
                    ·intro w'
                     go_simp
                     with_reducible rfl
                    rotate_left
                    ·simp only [Act.put, sA, sB, sC, i64_w, i32_w]
                     rfl
                    refine pure_ (i := 36) (N := some 156) (v := ?_) (a' := ?_) (ba 48 137438953471) rfl rfl (any_of HT_.out (by kernel_rfl)) (fun _ _ _ h => h) (Or.inl ⟨by rfl, ?_⟩) ?_ ?_
                    rotate_left
                    ·intro w'
                     go_simp
                     with_reducible rfl
                    rotate_left
                    ·simp only [Act.put, sA, sB, sC, i64_w, i32_w]
                     rfl
                    refine pure_ (i := 37) (N := some 157) (v := ?_) (a' := ?_) (ba 48 274877906943) rfl rfl (any_of HT_.out (by kernel_rfl)) (fun _ _ _ h => h) (Or.inl ⟨by rfl, ?_⟩) ?_ ?_
                    rotate_left
                    ·intro w'
                     go_simp
                     with_reducible rfl
                    rotate_left
                    ·simp only [Act.put, sA, sB, sC, i64_w, i32_w]
                     rfl
                    refine pure_ (i := 38) (N := some 158) (v := ?_) (a' := ?_) (ba 48 549755813887) rfl rfl (any_of HT_.out (by kernel_rfl)) (fun _ _ _ h => h) (Or.inl ⟨by rfl, ?_⟩) ?_ ?_
                    rotate_left
                    ·intro w'
                     go_simp
                     with_reducible rfl
                    rotate_left
                    ·simp only [Act.put, sA, sB, sC, i64_w, i32_w]
                     rfl
                    refine pure_ (i := 39) (N := some 159) (v := ?_) (a' := ?_) (ba 48 1099511627775) rfl rfl (any_of HT_.out (by kernel_rfl)) (fun _ _ _ h => h) (Or.inl ⟨by rfl, ?_⟩) ?_ ?_
                    rotate_left
                    ·intro w'
                     go_simp
                     with_reducible rfl
                    rotate_left
                    ·simp only [Act.put, sA, sB, sC, i64_w, i32_w]
                     rfl
                    refine pure_ (i := 41) (N := some 161) (v := ?_) (a' := ?_) (ba 48 3298534883327) rfl rfl (any_of HT_.out (by kernel_rfl)) (fun _ _ _ h => h) (Or.inl ⟨by rfl, ?_⟩) ?_ ?_
                    rotate_left
                    ·intro w'
                     go_simp
                     with_reducible rfl
                    rotate_left
                    ·simp only [Act.put, sA, sB, sC, i64_w, i32_w]
                     rfl
                    refine pure_ (i := 42) (N := some 162) (v := ?_) (a' := ?_) (ba 48 7696581394431) rfl rfl (any_of HT_.out (by kernel_rfl)) (fun _ _ _ h => h) (Or.inl ⟨by rfl, ?_⟩) ?_ ?_
                    rotate_left
                    ·intro w'
                     go_simp
                     with_reducible rfl
                    rotate_left
                    ·simp only [Act.put, sA, sB, sC, i64_w, i32_w]
                     rfl
                    refine pure_ (i := 43) (N := some 163) (v := ?_) (a' := ?_) (ba 48 16492674416639) rfl rfl (any_of HT_.out (by kernel_rfl)) (fun _ _ _ h => h) (Or.inl ⟨by rfl, ?_⟩) ?_ ?_
                    rotate_left
                    ·intro w'
                     go_simp
                     with_reducible rfl
                    rotate_left
                    ·simp only [Act.put, sA, sB, sC, i64_w, i32_w]
                     rfl
                    refine pure_ (i := 44) (N := some 164) (v := ?_) (a' := ?_) (ba 48 34084860461055) rfl rfl (any_of HT_.out (by kernel_rfl)) (fun _ _ _ h => h) (Or.inl ⟨by rfl, ?_⟩) ?_ ?_
                    rotate_left
                    ·intro w'
                     go_simp
                     with_reducible rfl
                    rotate_left
                    ·simp only [Act.put, sA, sB, sC, i64_w, i32_w]
                     rfl
                    refine take_ (i := 40) (N := some 160) (v := ?_) (a' := ?_) (ba 48 35184372088831) rfl rfl (take_ofW HT_.out HW_.out (by kernel_rfl)) (fun _ _ _ h => h) (Or.inl ⟨by rfl, ?_⟩) hHeld ?_ ?_
                    rotate_left
                    ·rintro w' ⟨s0, s1, s2, s3, s4, s5, s6, s7, s8, s9, s10, s11, s12, s13, s14, s15, s16, s17, s18, s19, s20, s21, s22, s23⟩
                     go_simp
                     with_reducible rfl
                    rotate_left
                    ·simp only [Act.put, sA, sB, sC, i64_w, i32_w]
                     rfl
                    refine take_ (i := 45) (N := some 165) (v := ?_) (a' := ?_) (ba 48 70368744177663) rfl rfl (take_ofW HT_.out HW_.out (by kernel_rfl)) (fun _ _ _ h => h) (Or.inl ⟨by rfl, ?_⟩) hHeld ?_ ?_
                    rotate_left
                    ·rintro w' ⟨s0, s1, s2, s3, s4, s5, s6, s7, s8, s9, s10, s11, s12, s13, s14, s15, s16, s17, s18, s19, s20, s21, s22, s23⟩
                     go_simp
                     with_reducible rfl
                    rotate_left
                    ·simp only [Act.put, sA, sB, sC, i64_w, i32_w]
                     rfl
                    refine pure_ (i := 46) (N := some 166) (v := ?_) (a' := ?_) (ba 48 140737488355327) rfl rfl (any_of HT_.out (by kernel_rfl)) (fun _ _ _ h => h) (Or.inl ⟨by rfl, ?_⟩) ?_ ?_
                    rotate_left
                    ·intro w'
                     go_simp
                     with_reducible rfl
                    rotate_left
                    ·simp only [Act.put, sA, sB, sC, i64_w, i32_w]
                     rfl
                    refine pure_ (i := 47) (N := some 167) (v := ?_) (a' := ?_) (ba 48 281474976710655) rfl rfl (any_of HT_.out (by kernel_rfl)) (fun _ _ _ h => h) (Or.inl ⟨by rfl, ?_⟩) ?_ ?_
                    rotate_left
                    ·intro w'
                     go_simp
                     with_reducible rfl
                    rotate_left
                    ·simp only [Act.put, sA, sB, sC, i64_w, i32_w]
                     rfl
                    refine done_ (done_of HT_.out (by kernel_rfl)) ?_
                    try go_wp2
                    go_roundg kj19
                    case measure => have := HJ6.out; have := HK2.out; have := HK3.out; have := HJ19.out; omega
                    case rel => exact ⟨(wrap64 (x7_2 + 1)), (by first | rfl | (simp; done) | (simp [*]; done)), H', ⟨by have := HJ6.out; have := HK2.out; have := HK3.out; have := HJ19.out; omega⟩, ⟨by (with_reducible repeat (first | apply Kd.N_alloc | apply Kd.N_drewN | apply Kd.N_drew)); exact HO_5.out⟩, ⟨by (with_reducible repeat (first | apply rA | apply rN | apply rD)); exact HO_6.out⟩, ⟨bl⟩⟩
                   ·rw [if_neg c114] at H
                    have c114b0 : (((rd_T31 t329 x7_2).f0) == ((rd_T31 l0 x7_2).f0)) = false := beq_eq_false_iff_ne.mpr c114
                    have c114b1 : (((rd_T31 t329 x7_2).f0) != ((rd_T31 l0 x7_2).f0)) = true := bne_iff_ne.mpr c114
                    obtain rfl := Option.some.inj H
                    cases hT
                  ·replace c113 := Bool.eq_false_iff.mpr c113
                   subst c113
                   have H1 : (some false) = some r := by rw [if_neg (show ¬ (false = true) by decide)] at H; exact H
                   clear H
                   have H := H1
                   clear H1
                   obtain rfl := Option.some.inj H
                   cases hT
                 ·rw [if_neg c111] at H
                  exact absurd H (by simp)
              ·rw [if_neg c62] at H
               exact absurd H (by simp)
             ·rw [if_neg c61] at H
              exact absurd H (by simp)
       ·rw [if_neg c19] at H
        have c19b0 : decide (x7_2 < (l0.length : Int)) = false := decide_eq_false c19
        clear c19
        replace H := Option.bind_eq_some_iff.mp H
        obtain ⟨t339, A1300, H⟩ := H
        try dsimp only at H
        have A130 := aM A1300
        clear A1300
        obtain rfl := Option.some.inj H
        go_wp2_with (first | ((with_reducible refine gate_callee (f := 8) rfl ?_); refine goesL_ (some 168) rfl rfl Try.func8 (by kernel_rfl) rfl #[] rfl (by (try simp only [List.map_toArray, List.map_cons, List.map_nil]); first | done | rfl | (simp only [List.length_drop, List.length_take]; rfl)) ?_; (with_reducible refine (mapmakerlaw26_lives.calls k2  t339 _ A130.out).mono ?_); rintro e w131 ⟨rfl, hb⟩; refine ⟨_, rfl, ?_⟩; replace HO_5 := aM (Kd.N_below (by (with_reducible repeat (first | apply Kd.N_alloc | apply Kd.N_drewN | apply Kd.N_drew)); exact HO_5.out) hb); replace HO_6 := aM (rB (rl HO_6) hb); replace HB := aM (bS (bl) hb); (try clear hb); (try clear hb2); (try clear hk); (try clear hi)))
        go_ret
        exact ⟨by first | rfl | (simp [errW_none, errW_some] <;> rfl) | (simp [*, errW_none, errW_some] <;> rfl), bl⟩
 ·replace c4 := Bool.eq_false_iff.mpr c4
  subst c4
  have H1 : ((mapmakerlaw26_lives.f k).bind fun t328 => (some t328)) = some r := by rw [if_neg (show ¬ (false = true) by decide)] at H; exact H
  clear H
  have H := H1
  clear H1
  replace H := Option.bind_eq_some_iff.mp H
  obtain ⟨t328, A1320, H⟩ := H
  try dsimp only at H
  have A132 := aM A1320
  clear A1320
  obtain rfl := Option.some.inj H
  go_enter Try.func6, Try.ntmps6
  go_wp2_with (first | ((with_reducible refine gate_callee (f := 7) rfl ?_); refine goesL_ (some 13) rfl rfl Try.func7 (by kernel_rfl) rfl #[.slice A0 l0.length c0] rfl (by (try simp only [List.map_toArray, List.map_cons, List.map_nil]); first | done | rfl | (simp only [List.length_drop, List.length_take]; rfl)) ?_; (with_reducible refine (mapmakerlaw26_few.calls k _ _ l0 false _ ?side1 ?side2 A3.out).mono ?_); (case side1 => repeat (first | exact HR0.out | (with_reducible refine cA ?_ _) | (with_reducible refine cN ?_ _) | (with_reducible refine cD ?_))); (case side2 => exact HC0.out); rintro e w' ⟨rfl, ⟨nd, rfl⟩⟩; refine ⟨_, rfl, ?_⟩) | ((with_reducible refine gate_callee (f := 8) rfl ?_); refine goesL_ (some 15) rfl rfl Try.func8 (by kernel_rfl) rfl #[] rfl (by (try simp only [List.map_toArray, List.map_cons, List.map_nil]); first | done | rfl | (simp only [List.length_drop, List.length_take]; rfl)) ?_; (with_reducible refine (mapmakerlaw26_lives.calls k  t328 _ A132.out).mono ?_); rintro e w133 ⟨rfl, hb⟩; refine ⟨_, rfl, ?_⟩; replace HB := aM (bS (bl) hb); (try clear hb); (try clear hb2); (try clear hk); (try clear hi)))
  go_ret
  exact ⟨by first | rfl | (simp [errW_none, errW_some] <;> rfl) | (simp [*, errW_none, errW_some] <;> rfl), bl⟩
theorem mapmakerlaw26_GeneralizeKeeps.opens_0 : Opens Try.prog 22 (Kd.slice 31 k31) (fun x => (x.length ≤ 140737488355328 ∧ ∀ y ∈ x, wf31 y)) := (Opens.slice Try.underlying22 (by kernel_rfl) (of_decide_eq_true (by kernel_rfl)) opens31)
def mapmakerlaw26_GeneralizeKeeps.Pure : Prop := ∀ (l0 : List (S31)) (a1 : Int), (l0.length ≤ 140737488355328 ∧ ∀ y ∈ l0, wf31 y) → (Lit.int .i64 a1).wf = true → ∃ k, mapmakerlaw26_GeneralizeKeeps.f k l0 a1 = some true
theorem mapmakerlaw26_GeneralizeKeeps.walk (P : mapmakerlaw26_GeneralizeKeeps.Pure) (w : World) (A0 : Option Addr) (c0 : Nat) (l0 : List (S31)) (hr0 : Kd.C k31 w A0 l0.length l0) (hc0 : l0.length ≤ c0) (a1 : Int) (w0 : (l0.length ≤ 140737488355328 ∧ ∀ y ∈ l0, wf31 y)) (w1 : (Lit.int .i64 a1).wf = true) :
  Calls Try.prog 6 #[.slice A0 l0.length c0, .int .i64 a1] w fun e w' => e = .returned (.bool true) ∧ Below w.heap.size w w' := by
 obtain ⟨k, h⟩ := P l0 a1 w0 w1
 refine (mapmakerlaw26_GeneralizeKeeps.callsT k A0 c0 l0 a1 true w hr0 hc0 h rfl).mono ?_
 rintro e w' ⟨rfl, hd⟩
 exact ⟨rfl, hd⟩
end Go.Proofs.Ytpgbfjndgbfhnaa.PAll
