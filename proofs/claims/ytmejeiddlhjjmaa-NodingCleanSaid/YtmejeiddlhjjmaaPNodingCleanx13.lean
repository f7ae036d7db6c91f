-- out of a driver of this session's prover over the kit's print: Lean checks it
import Derived.Test.YtmejeiddlhjjmaaPNodingCleanx0
import Derived.Test.YtmejeiddlhjjmaaPNodingCleanx1
import Derived.Test.YtmejeiddlhjjmaaPNodingCleanx3
import Derived.Test.YtmejeiddlhjjmaaPNodingCleanx4
import Derived.Test.YtmejeiddlhjjmaaPNodingCleanx6
import Derived.Test.YtmejeiddlhjjmaaPNodingCleanx9
import Derived.Test.YtmejeiddlhjjmaaPNodingCleanx10
import Derived.Test.YtmejeiddlhjjmaaPNodingCleanx12
namespace Go.Proofs.Ytmejeiddlhjjmaa.PNodingClean
open Go.Proofs.YtmejeiddlhjjmaaG Go.Shelf Go.Lib
open Go.RowKit Go.Proofs.YtmejeiddlhjjmaaW.PrintWords Go.Proofs.YtmejeiddlhjjmaaW.PrintLast Go.Proofs.YtmejeiddlhjjmaaW.PrintMore
attribute [local go_sem] max2_int min2_int max_two min_two max_three min_three max_four min_four   -- for this text's walks alone
set_option linter.unusedVariables false
set_option linter.unusedSimpArgs false
attribute [local go_sem high] eqA33
mutual
def mapmakerlaw20_NodingClean.l0 : Nat → List (S35) → List (S35) → Int → Option (Bool)
 | 0, _, _, _ => none
 | k + 1, x0, x3, x4 => if x4 ≥ 0 then (if 0 ≤ x4 then (if x4 < (x0.length : Int) then (if x3.length < 4398046511104 then (mapmakerlaw20_NodingClean.l0 k x0 (x3 ++ [(⟨(⟨(rd_T35 x0 x4).f1.f0, (rd_T35 x0 x4).f1.f1⟩ : S33), (⟨(rd_T35 x0 x4).f0.f0, (rd_T35 x0 x4).f0.f1⟩ : S33)⟩ : S35)]) (wrap64 (x4 - 1))) else (none)) else (none)) else (none)) else ((noding_Clean.f k x3).bind fun t255 => ((noding_Clean.f k x0).bind fun t256 => (if (t255 != t256) = true then (mapmakerlaw20_NodingClean.j1 k x0 true) else ((noding_Split.f k x3).bind fun t257 => ((noding_Split.f k x0).bind fun t260 => ((mapmakerref20_Same.f k t257 t260).bind fun t263 => (mapmakerlaw20_NodingClean.j1 k x0 (!t263))))))))
def mapmakerlaw20_NodingClean.j1 : Nat → List (S35) → Bool → Option (Bool)
 | 0, _, _ => none
 | k + 1, x0, x47 => if x47 = true then (some false) else ((noding_Unique.f k x0).bind fun t264 => (mapmakerlaw20_NodingClean.l1 k x0 t264 0))
def mapmakerlaw20_NodingClean.l1 : Nat → List (S35) → List (S35) → Int → Option (Bool)
 | 0, _, _, _ => none
 | k + 1, x0, x5, x6 => if x6 < (x5.length : Int) then ((noding_Clean.f k x0).bind fun t267 => (mapmakerlaw20_NodingClean.j3 k x0 x5 x6 t267)) else (mapmakerlaw20_NodingClean.j3 k x0 x5 x6 false)
def mapmakerlaw20_NodingClean.j3 : Nat → List (S35) → List (S35) → Int → Bool → Option (Bool)
 | 0, _, _, _, _ => none
 | k + 1, x0, x5, x6, x57 => if x57 = true then (mapmakerlaw20_NodingClean.l2 k x0 x5 x6 0) else ((mapmakerlaw20_lives.f k).bind fun t268 => (some t268))
def mapmakerlaw20_NodingClean.l2 : Nat → List (S35) → List (S35) → Int → Int → Option (Bool)
 | 0, _, _, _, _ => none
 | k + 1, x0, x5, x6, x7 => if x7 < x6 then (if 0 ≤ x6 then (if x6 < (x5.length : Int) then (if 0 ≤ x7 then (if x7 < (x5.length : Int) then (if (((rd_T35 x5 x6).f0.f0) == ((rd_T35 x5 x7).f0.f0) && (((rd_T35 x5 x6).f0.f1) == ((rd_T35 x5 x7).f0.f1))) = true then ((mapmakerref09_Relate.f k ((rd_T35 x5 x6).f0.f0) ((rd_T35 x5 x6).f0.f1) ((rd_T35 x5 x6).f1.f0) ((rd_T35 x5 x6).f1.f1) ((rd_T35 x5 x7).f0.f0) ((rd_T35 x5 x7).f0.f1) ((rd_T35 x5 x7).f1.f0) ((rd_T35 x5 x7).f1.f1)).bind fun t273 => (if t273 > 1 then (some false) else (if t273 = 1 then (mapmakerlaw20_NodingClean.l2 k x0 x5 x6 (wrap64 (x7 + 1))) else (mapmakerlaw20_NodingClean.l2 k x0 x5 x6 (wrap64 (x7 + 1)))))) else (if (((rd_T35 x5 x6).f0.f0) == ((rd_T35 x5 x7).f1.f0) && (((rd_T35 x5 x6).f0.f1) == ((rd_T35 x5 x7).f1.f1))) = true then ((mapmakerref09_Relate.f k ((rd_T35 x5 x6).f0.f0) ((rd_T35 x5 x6).f0.f1) ((rd_T35 x5 x6).f1.f0) ((rd_T35 x5 x6).f1.f1) ((rd_T35 x5 x7).f0.f0) ((rd_T35 x5 x7).f0.f1) ((rd_T35 x5 x7).f1.f0) ((rd_T35 x5 x7).f1.f1)).bind fun t278 => (if t278 > 1 then (some false) else (if t278 = 1 then (mapmakerlaw20_NodingClean.l2 k x0 x5 x6 (wrap64 (x7 + 1))) else (mapmakerlaw20_NodingClean.l2 k x0 x5 x6 (wrap64 (x7 + 1)))))) else (if (((rd_T35 x5 x6).f1.f0) == ((rd_T35 x5 x7).f0.f0) && (((rd_T35 x5 x6).f1.f1) == ((rd_T35 x5 x7).f0.f1))) = true then ((mapmakerref09_Relate.f k ((rd_T35 x5 x6).f0.f0) ((rd_T35 x5 x6).f0.f1) ((rd_T35 x5 x6).f1.f0) ((rd_T35 x5 x6).f1.f1) ((rd_T35 x5 x7).f0.f0) ((rd_T35 x5 x7).f0.f1) ((rd_T35 x5 x7).f1.f0) ((rd_T35 x5 x7).f1.f1)).bind fun t283 => (if t283 > 1 then (some false) else (if t283 = 1 then (mapmakerlaw20_NodingClean.l2 k x0 x5 x6 (wrap64 (x7 + 1))) else (mapmakerlaw20_NodingClean.l2 k x0 x5 x6 (wrap64 (x7 + 1)))))) else ((mapmakerref09_Relate.f k ((rd_T35 x5 x6).f0.f0) ((rd_T35 x5 x6).f0.f1) ((rd_T35 x5 x6).f1.f0) ((rd_T35 x5 x6).f1.f1) ((rd_T35 x5 x7).f0.f0) ((rd_T35 x5 x7).f0.f1) ((rd_T35 x5 x7).f1.f0) ((rd_T35 x5 x7).f1.f1)).bind fun t288 => (if t288 > 1 then (some false) else (if t288 = 1 then (if ((((rd_T35 x5 x6).f1.f0) == ((rd_T35 x5 x7).f1.f0) && (((rd_T35 x5 x6).f1.f1) == ((rd_T35 x5 x7).f1.f1))) = true) then (mapmakerlaw20_NodingClean.l2 k x0 x5 x6 (wrap64 (x7 + 1))) else (some false)) else (mapmakerlaw20_NodingClean.l2 k x0 x5 x6 (wrap64 (x7 + 1))))))))) else (none)) else (none)) else (none)) else (none)) else (mapmakerlaw20_NodingClean.l1 k x0 x5 (wrap64 (x6 + 1)))
end
def mapmakerlaw20_NodingClean.f (k : Nat) (l0 : List (S35)) : Option (Bool) := (mapmakerlaw20_few.f l0).bind fun t248 => (if t248 = true then (mapmakerlaw20_NodingClean.l0 k l0 ([] : List (S35)) (wrap64 ((l0.length : Int) - 1))) else ((mapmakerlaw20_lives.f k).bind fun t249 => (some t249)))
theorem mapmakerlaw20_NodingClean.mono_l : ∀ k, (∀ y0 y1 y2, LeO (mapmakerlaw20_NodingClean.l0 k y0 y1 y2) (mapmakerlaw20_NodingClean.l0 (k + 1) y0 y1 y2)) ∧ (∀ y0 y1, LeO (mapmakerlaw20_NodingClean.j1 k y0 y1) (mapmakerlaw20_NodingClean.j1 (k + 1) y0 y1)) ∧ (∀ y0 y1 y2, LeO (mapmakerlaw20_NodingClean.l1 k y0 y1 y2) (mapmakerlaw20_NodingClean.l1 (k + 1) y0 y1 y2)) ∧ (∀ y0 y1 y2 y3, LeO (mapmakerlaw20_NodingClean.j3 k y0 y1 y2 y3) (mapmakerlaw20_NodingClean.j3 (k + 1) y0 y1 y2 y3)) ∧ (∀ y0 y1 y2 y3, LeO (mapmakerlaw20_NodingClean.l2 k y0 y1 y2 y3) (mapmakerlaw20_NodingClean.l2 (k + 1) y0 y1 y2 y3))
 | 0 => ⟨fun _ _ _ r h => by simp [mapmakerlaw20_NodingClean.l0] at h, fun _ _ r h => by simp [mapmakerlaw20_NodingClean.j1] at h, fun _ _ _ r h => by simp [mapmakerlaw20_NodingClean.l1] at h, fun _ _ _ _ r h => by simp [mapmakerlaw20_NodingClean.j3] at h, fun _ _ _ _ r h => by simp [mapmakerlaw20_NodingClean.l2] at h⟩
 | k + 1 => by
  obtain ⟨ih0, ih1, ih2, ih3, ih4⟩ := mapmakerlaw20_NodingClean.mono_l k
  refine ⟨?_, ?_, ?_, ?_, ?_⟩
  ·intro y0 y1 y2
   unfold mapmakerlaw20_NodingClean.l0
   repeat' first
   | (with_reducible exact ih0 _ _ _)
   | (with_reducible exact ih1 _ _)
   | (with_reducible exact ih2 _ _ _)
   | (with_reducible exact ih3 _ _ _ _)
   | (with_reducible exact ih4 _ _ _ _)
   | (with_reducible exact mapmakerlaw20_lives.mono _)
   | (with_reducible exact mapmakerref09_Relate.mono _ _ _ _ _ _ _ _ _)
   | (with_reducible exact mapmakerref20_Same.mono _ _ _)
   | (with_reducible exact noding_Clean.mono _ _)
   | (with_reducible exact noding_Split.mono _ _)
   | (with_reducible exact noding_Unique.mono _ _)
   | (with_reducible exact LeO.refl _)
   | (with_reducible exact LeO.none _)
   | (with_reducible refine LeO.ite ?_ ?_)
   | (with_reducible refine LeO.bind ?_ (fun _ => ?_))
   | exact ih0 _ _ _
   | exact ih1 _ _
   | exact ih2 _ _ _
   | exact ih3 _ _ _ _
   | exact ih4 _ _ _ _
   | exact mapmakerlaw20_lives.mono _
   | exact mapmakerref09_Relate.mono _ _ _ _ _ _ _ _ _
   | exact mapmakerref20_Same.mono _ _ _
   | exact noding_Clean.mono _ _
   | exact noding_Split.mono _ _
   | exact noding_Unique.mono _ _
   | exact LeO.none _
   | refine LeO.ite ?_ ?_
   | refine LeO.bind ?_ (fun _ => ?_)
  ·intro y0 y1
   unfold mapmakerlaw20_NodingClean.j1
   repeat' first
   | (with_reducible exact ih0 _ _ _)
   | (with_reducible exact ih1 _ _)
   | (with_reducible exact ih2 _ _ _)
   | (with_reducible exact ih3 _ _ _ _)
   | (with_reducible exact ih4 _ _ _ _)
   | (with_reducible exact mapmakerlaw20_lives.mono _)
   | (with_reducible exact mapmakerref09_Relate.mono _ _ _ _ _ _ _ _ _)
   | (with_reducible exact mapmakerref20_Same.mono _ _ _)
   | (with_reducible exact noding_Clean.mono _ _)
   | (with_reducible exact noding_Split.mono _ _)
   | (with_reducible exact noding_Unique.mono _ _)
   | (with_reducible exact LeO.refl _)
   | (with_reducible exact LeO.none _)
   | (with_reducible refine LeO.ite ?_ ?_)
   | (with_reducible refine LeO.bind ?_ (fun _ => ?_))
   | exact ih0 _ _ _
   | exact ih1 _ _
   | exact ih2 _ _ _
   | exact ih3 _ _ _ _
   | exact ih4 _ _ _ _
   | exact mapmakerlaw20_lives.mono _
   | exact mapmakerref09_Relate.mono _ _ _ _ _ _ _ _ _
   | exact mapmakerref20_Same.mono _ _ _
   | exact noding_Clean.mono _ _
   | exact noding_Split.mono _ _
   | exact noding_Unique.mono _ _
   | exact LeO.none _
   | refine LeO.ite ?_ ?_
   | refine LeO.bind ?_ (fun _ => ?_)
  ·intro y0 y1 y2
   unfold mapmakerlaw20_NodingClean.l1
   repeat' first
   | (with_reducible exact ih0 _ _ _)
   | (with_reducible exact ih1 _ _)
   | (with_reducible exact ih2 _ _ _)
   | (with_reducible exact ih3 _ _ _ _)
   | (with_reducible exact ih4 _ _ _ _)
   | (with_reducible exact mapmakerlaw20_lives.mono _)
   | (with_reducible exact mapmakerref09_Relate.mono _ _ _ _ _ _ _ _ _)
   | (with_reducible exact mapmakerref20_Same.mono _ _ _)
   | (with_reducible exact noding_Clean.mono _ _)
   | (with_reducible exact noding_Split.mono _ _)
   | (with_reducible exact noding_Unique.mono _ _)
   | (with_reducible exact LeO.refl _)
   | (with_reducible exact LeO.none _)
   | (with_reducible refine LeO.ite ?_ ?_)
   | (with_reducible refine LeO.bind ?_ (fun _ => ?_))
   | exact ih0 _ _ _
   | exact ih1 _ _
   | exact ih2 _ _ _
   | exact ih3 _ _ _ _
   | exact ih4 _ _ _ _
   | exact mapmakerlaw20_lives.mono _
   | exact mapmakerref09_Relate.mono _ _ _ _ _ _ _ _ _
   | exact mapmakerref20_Same.mono _ _ _
   | exact noding_Clean.mono _ _
   | exact noding_Split.mono _ _
   | exact noding_Unique.mono _ _
   | exact LeO.none _
   | refine LeO.ite ?_ ?_
   | refine LeO.bind ?_ (fun _ => ?_)
  ·intro y0 y1 y2 y3
   unfold mapmakerlaw20_NodingClean.j3
   repeat' first
   | (with_reducible exact ih0 _ _ _)
   | (with_reducible exact ih1 _ _)
   | (with_reducible exact ih2 _ _ _)
   | (with_reducible exact ih3 _ _ _ _)
   | (with_reducible exact ih4 _ _ _ _)
   | (with_reducible exact mapmakerlaw20_lives.mono _)
   | (with_reducible exact mapmakerref09_Relate.mono _ _ _ _ _ _ _ _ _)
   | (with_reducible exact mapmakerref20_Same.mono _ _ _)
   | (with_reducible exact noding_Clean.mono _ _)
   | (with_reducible exact noding_Split.mono _ _)
   | (with_reducible exact noding_Unique.mono _ _)
   | (with_reducible exact LeO.refl _)
   | (with_reducible exact LeO.none _)
   | (with_reducible refine LeO.ite ?_ ?_)
   | (with_reducible refine LeO.bind ?_ (fun _ => ?_))
   | exact ih0 _ _ _
   | exact ih1 _ _
   | exact ih2 _ _ _
   | exact ih3 _ _ _ _
   | exact ih4 _ _ _ _
   | exact mapmakerlaw20_lives.mono _
   | exact mapmakerref09_Relate.mono _ _ _ _ _ _ _ _ _
   | exact mapmakerref20_Same.mono _ _ _
   | exact noding_Clean.mono _ _
   | exact noding_Split.mono _ _
   | exact noding_Unique.mono _ _
   | exact LeO.none _
   | refine LeO.ite ?_ ?_
   | refine LeO.bind ?_ (fun _ => ?_)
  ·intro y0 y1 y2 y3
   unfold mapmakerlaw20_NodingClean.l2
   repeat' first
   | (with_reducible exact ih0 _ _ _)
   | (with_reducible exact ih1 _ _)
   | (with_reducible exact ih2 _ _ _)
   | (with_reducible exact ih3 _ _ _ _)
   | (with_reducible exact ih4 _ _ _ _)
   | (with_reducible exact mapmakerlaw20_lives.mono _)
   | (with_reducible exact mapmakerref09_Relate.mono _ _ _ _ _ _ _ _ _)
   | (with_reducible exact mapmakerref20_Same.mono _ _ _)
   | (with_reducible exact noding_Clean.mono _ _)
   | (with_reducible exact noding_Split.mono _ _)
   | (with_reducible exact noding_Unique.mono _ _)
   | (with_reducible exact LeO.refl _)
   | (with_reducible exact LeO.none _)
   | (with_reducible refine LeO.ite ?_ ?_)
   | (with_reducible refine LeO.bind ?_ (fun _ => ?_))
   | exact ih0 _ _ _
   | exact ih1 _ _
   | exact ih2 _ _ _
   | exact ih3 _ _ _ _
   | exact ih4 _ _ _ _
   | exact mapmakerlaw20_lives.mono _
   | exact mapmakerref09_Relate.mono _ _ _ _ _ _ _ _ _
   | exact mapmakerref20_Same.mono _ _ _
   | exact noding_Clean.mono _ _
   | exact noding_Split.mono _ _
   | exact noding_Unique.mono _ _
   | exact LeO.none _
   | refine LeO.ite ?_ ?_
   | refine LeO.bind ?_ (fun _ => ?_)
theorem mapmakerlaw20_NodingClean.mono : ∀ a0 k, LeO (mapmakerlaw20_NodingClean.f k a0) (mapmakerlaw20_NodingClean.f (k + 1) a0) := by
 intro a0 k
 obtain ⟨ih0, ih1, ih2, ih3, ih4⟩ := mapmakerlaw20_NodingClean.mono_l k
 unfold mapmakerlaw20_NodingClean.f
 repeat' first
   | (with_reducible exact ih0 _ _ _)
   | (with_reducible exact ih1 _ _)
   | (with_reducible exact ih2 _ _ _)
   | (with_reducible exact ih3 _ _ _ _)
   | (with_reducible exact ih4 _ _ _ _)
   | (with_reducible exact mapmakerlaw20_lives.mono _)
   | (with_reducible exact mapmakerref09_Relate.mono _ _ _ _ _ _ _ _ _)
   | (with_reducible exact mapmakerref20_Same.mono _ _ _)
   | (with_reducible exact noding_Clean.mono _ _)
   | (with_reducible exact noding_Split.mono _ _)
   | (with_reducible exact noding_Unique.mono _ _)
   | (with_reducible exact LeO.refl _)
   | (with_reducible exact LeO.none _)
   | (with_reducible refine LeO.ite ?_ ?_)
   | (with_reducible refine LeO.bind ?_ (fun _ => ?_))
   | exact ih0 _ _ _
   | exact ih1 _ _
   | exact ih2 _ _ _
   | exact ih3 _ _ _ _
   | exact ih4 _ _ _ _
   | exact mapmakerlaw20_lives.mono _
   | exact mapmakerref09_Relate.mono _ _ _ _ _ _ _ _ _
   | exact mapmakerref20_Same.mono _ _ _
   | exact noding_Clean.mono _ _
   | exact noding_Split.mono _ _
   | exact noding_Unique.mono _ _
   | exact LeO.none _
   | refine LeO.ite ?_ ?_
   | refine LeO.bind ?_ (fun _ => ?_)
def mapmakerlaw20_NodingClean.T7 : Bool × List (List Nat × List Nat) := (true, [([], []), ([], []), ([], []), ([1, 2], [1, 2]), ([3], [3]), ([4], [4]), ([], []), ([], []), ([6, 7], [6, 7]), ([8], [8]), ([9], [9]), ([5, 10], [5, 10]), ([11], [11]), ([0, 12], [0, 12]), ([13, 13, 0, 1, 2, 3, 4, 5, 6, 7, 8, 9, 10, 11, 12, 13], [0, 13])])
def mapmakerlaw20_NodingClean.B7 : List Nat := [0, 0, 0, 6, 14, 30, 0, 0, 192, 448, 960, 2046, 4094, 8191, 16383]
theorem mapmakerlaw20_NodingClean.tab7 : rtab .any (opsOf Try.f7 7) = mapmakerlaw20_NodingClean.T7 := by kernel_rfl
theorem mapmakerlaw20_NodingClean.bits7 : waitsOk mapmakerlaw20_NodingClean.T7.2 mapmakerlaw20_NodingClean.B7 = true := by kernel_rfl
def mapmakerlaw20_NodingClean.T17 : Bool × List (List Nat × List Nat) := (true, [([], []), ([], []), ([0, 1], [0, 1]), ([2], [2]), ([3], [3]), ([], []), ([], []), ([5, 6], [5, 6]), ([7], [7]), ([8], [8]), ([4, 9], [4, 9]), ([10], [10]), ([11], [11]), ([11], [11]), ([12, 13, 11], [11, 12, 13]), ([14, 11], [11, 14]), ([15, 11], [11, 15]), ([11], [11]), ([11], [11]), ([17, 18, 11], [11, 17, 18]), ([19, 11], [11, 19]), ([20, 11], [11, 20]), ([16, 21, 11], [11, 16, 21]), ([11, 22], [11, 22]), ([23, 11], [23]), ([24], [24]), ([24], [24]), ([25, 26, 24], [24, 25, 26]), ([27, 24], [24, 27]), ([28, 24], [24, 28]), ([24], [24]), ([24], [24]), ([30, 31, 24], [24, 30, 31]), ([32, 24], [24, 32]), ([33, 24], [24, 33]), ([29, 34, 24], [24, 29, 34]), ([24, 35], [24, 35]), ([36, 24], [36]), ([37], [37]), ([37], [37]), ([38, 39, 37], [37, 38, 39]), ([40, 37], [37, 40]), ([41, 37], [37, 41]), ([37], [37]), ([37], [37]), ([43, 44, 37], [37, 43, 44]), ([45, 37], [37, 45]), ([46, 37], [37, 46]), ([42, 47, 37], [37, 42, 47]), ([37, 48], [37, 48]), ([49, 37, 0, 1, 2, 3, 4, 5, 6, 7, 8, 9, 10, 11, 12, 13, 14, 15, 16, 17, 18, 19, 20, 21, 22, 23, 24, 25, 26, 27, 28, 29, 30, 31, 32, 33, 34, 35, 36, 37, 38, 39, 40, 41, 42, 43, 44, 45, 46, 47, 48, 49], [49])])
def mapmakerlaw20_NodingClean.B17 : List Nat := [0, 0, 3, 7, 15, 0, 0, 96, 224, 480, 1023, 2047, 4095, 4095, 16383, 32767, 65535, 4095, 4095, 397311, 921599, 1970175, 4194303, 8388607, 16777215, 33554431, 33554431, 134217727, 268435455, 536870911, 33554431, 33554431, 3254779903, 7549747199, 16139681791, 34359738367, 68719476735, 137438953471, 274877906943, 274877906943, 1099511627775, 2199023255551, 4398046511103, 274877906943, 274877906943, 26663156973567, 61847529062399, 132216273240063, 281474976710655, 562949953421311, 1125899906842623]
theorem mapmakerlaw20_NodingClean.tab17 : rtab .any (opsOf Try.f7 17) = mapmakerlaw20_NodingClean.T17 := by kernel_rfl
theorem mapmakerlaw20_NodingClean.bits17 : waitsOk mapmakerlaw20_NodingClean.T17.2 mapmakerlaw20_NodingClean.B17 = true := by kernel_rfl
def mapmakerlaw20_NodingClean.T18 : Bool × List (List Nat × List Nat) := (true, [([], []), ([], []), ([0, 1], [0, 1]), ([2], [2]), ([], []), ([], []), ([4, 5], [4, 5]), ([6], [6]), ([3, 7], [3, 7]), ([8, 8, 0, 1, 2, 3, 4, 5, 6, 7, 8], [8])])
def mapmakerlaw20_NodingClean.B18 : List Nat := [0, 0, 3, 7, 0, 0, 48, 112, 255, 511]
theorem mapmakerlaw20_NodingClean.tab18 : rtab .any (opsOf Try.f7 18) = mapmakerlaw20_NodingClean.T18 := by kernel_rfl
theorem mapmakerlaw20_NodingClean.bits18 : waitsOk mapmakerlaw20_NodingClean.T18.2 mapmakerlaw20_NodingClean.B18 = true := by kernel_rfl
set_option maxHeartbeats 8000000 in
set_option maxRecDepth 100000 in
theorem mapmakerlaw20_NodingClean.calls (k : Nat) (A0 : Option Addr) (c0 : Nat) (l0 : List (S35)) (r : Bool) (w : World) (hr0 : Kd.C k35 w A0 l0.length l0) (hc0 : l0.length ≤ c0) (h : mapmakerlaw20_NodingClean.f k l0 = some r) :
  Calls Try.prog 7 #[.slice A0 l0.length c0] w fun e w' => e = .returned (.bool r) ∧ Below w.heap.size w w' := by
 have hu33 := Try.underlying33
 have hu35 := Try.underlying35
 have HR0 := aM hr0
 have HC0 := aM hc0
 clear hr0 hc0
 have HB := aM (Below.refl w.heap.size w)
 have H : ((mapmakerlaw20_few.f l0).bind fun t248 => (if t248 = true then (mapmakerlaw20_NodingClean.l0 k l0 ([] : List (S35)) (wrap64 ((l0.length : Int) - 1))) else ((mapmakerlaw20_lives.f k).bind fun t249 => (some t249)))) = some r := h
 clear h
 replace H := Option.bind_eq_some_iff.mp H
 obtain ⟨t248, A20, H⟩ := H
 try dsimp only at H
 have A2 := aM A20
 clear A20
 by_cases c3 : t248 = true
 ·subst c3
  have H1 : (mapmakerlaw20_NodingClean.l0 k l0 ([] : List (S35)) (wrap64 ((l0.length : Int) - 1))) = some r := by rw [if_pos rfl] at H; exact H
  clear H
  have H := H1
  clear H1
  have H' := aM H
  clear H
  go_enter Try.func7, Try.ntmps7
  go_wp2_with (first | ((with_reducible refine gate_callee (f := 8) rfl ?_); refine goesL_ (some 11) rfl rfl Try.func8 (by kernel_rfl) rfl #[.slice A0 l0.length c0] rfl (by (try simp only [List.map_toArray, List.map_cons, List.map_nil]); first | done | rfl | (simp only [List.length_drop, List.length_take]; rfl)) ?_; (with_reducible refine (mapmakerlaw20_few.calls _ _ l0 true _ ?side1 ?side2 A2.out).mono ?_); (case side1 => repeat (first | exact HR0.out | (with_reducible refine cA ?_ _) | (with_reducible refine cN ?_ _) | (with_reducible refine cD ?_))); (case side2 => exact HC0.out); rintro e w' ⟨rfl, ⟨nd, rfl⟩⟩; refine ⟨_, rfl, ?_⟩))
  go_loopg [3, 4] k (fun kq v3 v4 w' => ∃ (x3_1 : List (S35)) (x4_1 : Int), v4 = .int .i64 x4_1 ∧ Aside0 (mapmakerlaw20_NodingClean.l0 kq l0 x3_1 x4_1 = some r) ∧ Aside0 (kq ≤ k) ∧ Aside0 (Kd.R k35 35 w' w.heap.size (fun _ => True) v3 x3_1) ∧ Aside0 (Below w.heap.size w w'))
  case atStart => exact ⟨(([] : List (S35))), (wrap64 ((l0.length : Int) - 1)), (by first | rfl | (simp; done) | (simp [*]; done)), H', ⟨Nat.le_refl _⟩, ⟨by first | exact Kd.R_nil _ _ _ _ _ | exact Kd.N_nil _ _ _ _ _ | exact Kd.V_nil _ _ _ _ _ | exact Kd.Q_nil _ _ _ _ _ | exact Kd.S_nil _ _ _ _ _⟩, ⟨bl⟩⟩
  case round =>
   clear H'
   try clear p2
   try clear c3
   obtain ⟨x3_1, x4_1, rfl, HA, HK1, HO_3, HB⟩ := hrel
   cases gk with
   | zero => exact absurd HA.out (by simp [mapmakerlaw20_NodingClean.l0])
   | succ k1 =>
    have H := HA.out
    clear HA
    simp only [mapmakerlaw20_NodingClean.l0] at H
    by_cases c4 : x4_1 ≥ 0
    ·rw [if_pos c4] at H
     have c4b0 : decide (0 ≤ x4_1) = true := decide_eq_true c4
     clear c4
     by_cases c5 : 0 ≤ x4_1
     ·rw [if_pos c5] at H
      have c5b0 : decide (0 ≤ x4_1) = true := decide_eq_true c5
      clear c5
      by_cases c6 : x4_1 < (l0.length : Int)
      ·rw [if_pos c6] at H
       have c6b0 : decide (x4_1 < (l0.length : Int)) = true := decide_eq_true c6
       clear c6
       by_cases c7 : x3_1.length < 4398046511104
       ·rw [if_pos c7] at H
        have LMc7 := aM c7
        clear c7
        obtain ⟨y252, hy252⟩ : ∃ y_ : List (S35), y_ = (x3_1 ++ [(⟨(⟨(rd_T35 l0 x4_1).f1.f0, (rd_T35 l0 x4_1).f1.f1⟩ : S33), (⟨(rd_T35 l0 x4_1).f0.f0, (rd_T35 l0 x4_1).f0.f1⟩ : S33)⟩ : S35)]) := ⟨_, rfl⟩
        replace H : (mapmakerlaw20_NodingClean.l0 k1 l0 y252 (wrap64 (x4_1 - 1))) = some r := by first | (rw [hy252]; with_reducible exact H) | (have H2_ := (Option.bind_some _ _).symm.trans H; rw [hy252]; with_reducible exact H2_) | (have H2_ := (Option.bind_some _ _).symm.trans H; with_reducible exact H2_) | with_reducible exact H | (rw [hy252]; exact H) | exact H
        have Ny252 := aM hy252
        clear hy252
        have H' := aM H
        clear H
        try go_wp2
        replace HO_3 := aM (rD HO_3.out)
        replace HB := aM (bD HB.out)
        have p250 : 0 ≤ (x4_1 : Int) := of_decide_eq_true (by first | (with_reducible assumption) | assumption)
        have q250 : x4_1 < (l0.length : Int) := of_decide_eq_true (by first | (with_reducible assumption) | assumption)
        obtain ⟨ad250, e250, hx250_0, hx250_1, hx250_2, hx250_3⟩ := at_T35 HR0.out x4_1 p250 q250
        have hw250_3 := hx250_3
        have hw250_2 := hx250_2
        have hw250_1 := hx250_1
        have hw250_0 := hx250_0
        cases e250
        replace hx250_0 := (HB.out.cell (World.block_lt_of_cell? w _ hx250_0)).trans hx250_0
        replace hx250_1 := (HB.out.cell (World.block_lt_of_cell? w _ hx250_1)).trans hx250_1
        replace hx250_2 := (HB.out.cell (World.block_lt_of_cell? w _ hx250_2)).trans hx250_2
        replace hx250_3 := (HB.out.cell (World.block_lt_of_cell? w _ hx250_3)).trans hx250_3
        replace p250 := eq_true p250
        replace q250 := eq_true q250
        have p251 : 0 ≤ (x4_1 : Int) := of_decide_eq_true (by first | (with_reducible assumption) | assumption)
        have q251 : x4_1 < (l0.length : Int) := of_decide_eq_true (by first | (with_reducible assumption) | assumption)
        obtain ⟨ad251, e251, hx251_0, hx251_1, hx251_2, hx251_3⟩ := at_T35 HR0.out x4_1 p251 q251
        have hw251_3 := hx251_3
        have hw251_2 := hx251_2
        have hw251_1 := hx251_1
        have hw251_0 := hx251_0
        obtain rfl : ad250 = ad251 := (by injection e251)
        replace hx251_0 := (HB.out.cell (World.block_lt_of_cell? w _ hx251_0)).trans hx251_0
        replace hx251_1 := (HB.out.cell (World.block_lt_of_cell? w _ hx251_1)).trans hx251_1
        replace hx251_2 := (HB.out.cell (World.block_lt_of_cell? w _ hx251_2)).trans hx251_2
        replace hx251_3 := (HB.out.cell (World.block_lt_of_cell? w _ hx251_3)).trans hx251_3
        replace p251 := eq_true p251
        replace q251 := eq_true q251
        refine start_ (n := 15) (S := fun w' => w'.cell? (ad250.add ((x4_1).toNat * 4)) = some (.int .i64 ((rd_T35 l0 x4_1).f0.f0)) ∧ w'.cell? ⟨(ad250.add ((x4_1).toNat * 4)).block, (ad250.add ((x4_1).toNat * 4)).off + 1, none⟩ = some (.int .i64 ((rd_T35 l0 x4_1).f0.f1)) ∧ w'.cell? ⟨(ad250.add ((x4_1).toNat * 4)).block, (ad250.add ((x4_1).toNat * 4)).off + 2, none⟩ = some (.int .i64 ((rd_T35 l0 x4_1).f1.f0)) ∧ w'.cell? ⟨(ad250.add ((x4_1).toNat * 4)).block, (ad250.add ((x4_1).toNat * 4)).off + 3, none⟩ = some (.int .i64 ((rd_T35 l0 x4_1).f1.f1)) ∧ w'.cell? (ad250.add ((x4_1).toNat * 4)) = some (.int .i64 ((rd_T35 l0 x4_1).f0.f0)) ∧ w'.cell? ⟨(ad250.add ((x4_1).toNat * 4)).block, (ad250.add ((x4_1).toNat * 4)).off + 1, none⟩ = some (.int .i64 ((rd_T35 l0 x4_1).f0.f1)) ∧ w'.cell? ⟨(ad250.add ((x4_1).toNat * 4)).block, (ad250.add ((x4_1).toNat * 4)).off + 2, none⟩ = some (.int .i64 ((rd_T35 l0 x4_1).f1.f0)) ∧ w'.cell? ⟨(ad250.add ((x4_1).toNat * 4)).block, (ad250.add ((x4_1).toNat * 4)).off + 3, none⟩ = some (.int .i64 ((rd_T35 l0 x4_1).f1.f1))) (ds := []) #[false, false, false, false, false, false, false, false, false, false, false, false, false, false, false] (by kernel_rfl) rfl rfl ⟨((HB.out.cell (World.block_lt_of_cell? w _ hw250_0)).trans hw250_0), ((HB.out.cell (World.block_lt_of_cell? w _ hw250_1)).trans hw250_1), ((HB.out.cell (World.block_lt_of_cell? w _ hw250_2)).trans hw250_2), ((HB.out.cell (World.block_lt_of_cell? w _ hw250_3)).trans hw250_3), ((HB.out.cell (World.block_lt_of_cell? w _ hw251_0)).trans hw251_0), ((HB.out.cell (World.block_lt_of_cell? w _ hw251_1)).trans hw251_1), ((HB.out.cell (World.block_lt_of_cell? w _ hw251_2)).trans hw251_2), ((HB.out.cell (World.block_lt_of_cell? w _ hw251_3)).trans hw251_3)⟩ (fun hHeld => ?_); refine with_tabW mapmakerlaw20_NodingClean.tab7 mapmakerlaw20_NodingClean.bits7 (fun HT_ HW_ => ?_)
        generalize wr.drew = w8 at HO_3 HB hx250_0 hx250_1 hx250_2 hx250_3 hx251_0 hx251_1 hx251_2 hx251_3 hHeld ⊢
        refine pure_ (i := 0) (N := some 21) (v := ?_) (a' := ?_) (ba 15 1) rfl rfl (any_of HT_.out (by kernel_rfl)) (fun _ _ _ h => h) (Or.inl ⟨by rfl, ?_⟩) ?_ ?_
        rotate_left
        ·intro w'
         go_simp
         with_reducible rfl
        rotate_left
        ·simp only [Act.put, sA, sB, sC, i64_w, i32_w]
         rfl
        refine pure_ (i := 1) (N := some 22) (v := ?_) (a' := ?_) (ba 15 3) rfl rfl (any_of HT_.out (by kernel_rfl)) (fun _ _ _ h => h) (Or.inl ⟨by rfl, ?_⟩) ?_ ?_
        rotate_left
        ·intro w'
         go_simp
         with_reducible rfl
        rotate_left
        ·simp only [Act.put, sA, sB, sC, i64_w, i32_w]
         rfl
        refine pure_ (i := 2) (N := some 23) (v := ?_) (a' := ?_) (ba 15 7) rfl rfl (any_of HT_.out (by kernel_rfl)) (fun _ _ _ h => h) (Or.inl ⟨by rfl, ?_⟩) ?_ ?_
        rotate_left
        ·intro w'
         go_simp
         with_reducible rfl
        rotate_left
        ·simp only [Act.put, sA, sB, sC, i64_w, i32_w]
         rfl
        refine pure_ (i := 3) (N := some 24) (v := ?_) (a' := ?_) (ba 15 15) rfl rfl (any_of HT_.out (by kernel_rfl)) (fun _ _ _ h => h) (Or.inl ⟨by rfl, ?_⟩) ?_ ?_
        rotate_left
        ·intro w'
         go_simp
         with_reducible rfl
        rotate_left
        ·simp only [Act.put, sA, sB, sC, i64_w, i32_w]
         rfl
        refine pure_ (i := 4) (N := some 25) (v := ?_) (a' := ?_) (ba 15 31) rfl rfl (any_of HT_.out (by kernel_rfl)) (fun _ _ _ h => h) (Or.inl ⟨by rfl, ?_⟩) ?_ ?_
        rotate_left
        ·intro w'
         go_simp
         with_reducible rfl
        rotate_left
        ·simp only [Act.put, sA, sB, sC, i64_w, i32_w]
         rfl
        refine pure_ (i := 6) (N := some 27) (v := ?_) (a' := ?_) (ba 15 95) rfl rfl (any_of HT_.out (by kernel_rfl)) (fun _ _ _ h => h) (Or.inl ⟨by rfl, ?_⟩) ?_ ?_
        rotate_left
        ·intro w'
         go_simp
         with_reducible rfl
        rotate_left
        ·simp only [Act.put, sA, sB, sC, i64_w, i32_w]
         rfl
        refine pure_ (i := 7) (N := some 28) (v := ?_) (a' := ?_) (ba 15 223) rfl rfl (any_of HT_.out (by kernel_rfl)) (fun _ _ _ h => h) (Or.inl ⟨by rfl, ?_⟩) ?_ ?_
        rotate_left
        ·intro w'
         go_simp
         with_reducible rfl
        rotate_left
        ·simp only [Act.put, sA, sB, sC, i64_w, i32_w]
         rfl
        refine pure_ (i := 8) (N := some 29) (v := ?_) (a' := ?_) (ba 15 479) rfl rfl (any_of HT_.out (by kernel_rfl)) (fun _ _ _ h => h) (Or.inl ⟨by rfl, ?_⟩) ?_ ?_
        rotate_left
        ·intro w'
         go_simp
         with_reducible rfl
        rotate_left
        ·simp only [Act.put, sA, sB, sC, i64_w, i32_w]
         rfl
        refine pure_ (i := 9) (N := some 30) (v := ?_) (a' := ?_) (ba 15 991) rfl rfl (any_of HT_.out (by kernel_rfl)) (fun _ _ _ h => h) (Or.inl ⟨by rfl, ?_⟩) ?_ ?_
        rotate_left
        ·intro w'
         go_simp
         with_reducible rfl
        rotate_left
        ·simp only [Act.put, sA, sB, sC, i64_w, i32_w]
         rfl
        refine take_ (i := 5) (N := some 26) (v := ?_) (a' := ?_) (ba 15 1023) rfl rfl (take_ofW HT_.out HW_.out (by kernel_rfl)) (fun _ _ _ h => h) (Or.inl ⟨by rfl, ?_⟩) hHeld ?_ ?_
        rotate_left
        ·rintro w' ⟨s0, s1, s2, s3, s4, s5, s6, s7⟩
         go_simp
         with_reducible rfl
        rotate_left
        ·simp only [Act.put, sA, sB, sC, i64_w, i32_w]
         rfl
        refine take_ (i := 10) (N := some 31) (v := ?_) (a' := ?_) (ba 15 2047) rfl rfl (take_ofW HT_.out HW_.out (by kernel_rfl)) (fun _ _ _ h => h) (Or.inl ⟨by rfl, ?_⟩) hHeld ?_ ?_
        rotate_left
        ·rintro w' ⟨s0, s1, s2, s3, s4, s5, s6, s7⟩
         go_simp
         with_reducible rfl
        rotate_left
        ·simp only [Act.put, sA, sB, sC, i64_w, i32_w]
         rfl
        refine pure_ (i := 11) (N := some 32) (v := ?_) (a' := ?_) (ba 15 4095) rfl rfl (any_of HT_.out (by kernel_rfl)) (fun _ _ _ h => h) (Or.inl ⟨by rfl, ?_⟩) ?_ ?_
        rotate_left
        ·intro w'
         go_simp
         with_reducible rfl
        rotate_left
        ·simp only [Act.put, sA, sB, sC, i64_w, i32_w]
         rfl
        refine one_ (i := 12) (N := some 33) (ba 15 8191) rfl rfl (one_of HT_.out (by kernel_rfl)) (by decide) (fun K hK => ?_)
        refine value_ (w1 := ?_) (v := ?_) (by rfl) rfl ?_ ?_
        rotate_left 2
        ·go_simp
         constructor
         ·rfl
         ·rfl
        refine hK.out _ _ ⟨(World.cell?_alloc_lt _ _ _ (World.block_lt_of_cell? _ _ (((HB.out.cell (World.block_lt_of_cell? w _ hw250_0)).trans hw250_0)))).trans (((HB.out.cell (World.block_lt_of_cell? w _ hw250_0)).trans hw250_0)), (World.cell?_alloc_lt _ _ _ (World.block_lt_of_cell? _ _ (((HB.out.cell (World.block_lt_of_cell? w _ hw250_1)).trans hw250_1)))).trans (((HB.out.cell (World.block_lt_of_cell? w _ hw250_1)).trans hw250_1)), (World.cell?_alloc_lt _ _ _ (World.block_lt_of_cell? _ _ (((HB.out.cell (World.block_lt_of_cell? w _ hw250_2)).trans hw250_2)))).trans (((HB.out.cell (World.block_lt_of_cell? w _ hw250_2)).trans hw250_2)), (World.cell?_alloc_lt _ _ _ (World.block_lt_of_cell? _ _ (((HB.out.cell (World.block_lt_of_cell? w _ hw250_3)).trans hw250_3)))).trans (((HB.out.cell (World.block_lt_of_cell? w _ hw250_3)).trans hw250_3)), (World.cell?_alloc_lt _ _ _ (World.block_lt_of_cell? _ _ (((HB.out.cell (World.block_lt_of_cell? w _ hw251_0)).trans hw251_0)))).trans (((HB.out.cell (World.block_lt_of_cell? w _ hw251_0)).trans hw251_0)), (World.cell?_alloc_lt _ _ _ (World.block_lt_of_cell? _ _ (((HB.out.cell (World.block_lt_of_cell? w _ hw251_1)).trans hw251_1)))).trans (((HB.out.cell (World.block_lt_of_cell? w _ hw251_1)).trans hw251_1)), (World.cell?_alloc_lt _ _ _ (World.block_lt_of_cell? _ _ (((HB.out.cell (World.block_lt_of_cell? w _ hw251_2)).trans hw251_2)))).trans (((HB.out.cell (World.block_lt_of_cell? w _ hw251_2)).trans hw251_2)), (World.cell?_alloc_lt _ _ _ (World.block_lt_of_cell? _ _ (((HB.out.cell (World.block_lt_of_cell? w _ hw251_3)).trans hw251_3)))).trans (((HB.out.cell (World.block_lt_of_cell? w _ hw251_3)).trans hw251_3))⟩ (fun hHeld => ?_)
        clear hK K
        refine norm_ (a' := ?_) ?_ ?_
        rotate_left
        ·show Act.put _ (some 33) _ = _
         simp only [Act.put, sA, sB, sC, i64_w, i32_w]
         rfl
        refine one_ (i := 13) (N := some 34) (ba 15 16383) rfl rfl (one_of HT_.out (by kernel_rfl)) (by decide) (fun K hK => ?_)
        refine Kd.R_append_step k35 (w0 := w) w.heap.size (by rfl) (.tmp 21) (.tmp 33) 23 35 (.agg #[(.int .i64 0), (.int .i64 0), (.int .i64 0), (.int .i64 0)]) 32 rfl Try.underlying23 info35 rfl (by decide) (by omega) u3 x3_1 (⟨(⟨(rd_T35 l0 x4_1).f1.f0, (rd_T35 l0 x4_1).f1.f1⟩ : S33), (⟨(rd_T35 l0 x4_1).f0.f0, (rd_T35 l0 x4_1).f0.f1⟩ : S33)⟩ : S35) [.int .i64 ((rd_T35 l0 x4_1).f1.f0), .int .i64 ((rd_T35 l0 x4_1).f1.f1), .int .i64 ((rd_T35 l0 x4_1).f0.f0), .int .i64 ((rd_T35 l0 x4_1).f0.f1)] (fun _ => True) (fun _ => False) rfl rfl ?aP (fun _ hk => hk.elim) ?aF ?aO ?aB ?aS ?aL ?_
        (case aP => exact k35_mkM _ _ _ (⟨(⟨(rd_T35 l0 x4_1).f1.f0, (rd_T35 l0 x4_1).f1.f1⟩ : S33), (⟨(rd_T35 l0 x4_1).f0.f0, (rd_T35 l0 x4_1).f0.f1⟩ : S33)⟩ : S35))
        (case aB => exact (bl))
        (case aF => exact (fun _ _ => trivial))
        (case aO => exact (rl HO_3))
        (case aS => exact (below_size (bl)))
        (case aL => have := LMc7.out; omega)
        intro v253 w9 ho hb hg hat
        rw [← Ny252.out] at ho
        have n0_ := aM (hb)
        have n1_ := aM (ho)
        clear HB HO_3
        have HB := n0_
        have HO254 := n1_
        clear n0_ n1_ ho hb hg hat
        refine hK.out _ _ ⟨((HB.out.cell (World.block_lt_of_cell? w _ hw250_0)).trans hw250_0), ((HB.out.cell (World.block_lt_of_cell? w _ hw250_1)).trans hw250_1), ((HB.out.cell (World.block_lt_of_cell? w _ hw250_2)).trans hw250_2), ((HB.out.cell (World.block_lt_of_cell? w _ hw250_3)).trans hw250_3), ((HB.out.cell (World.block_lt_of_cell? w _ hw251_0)).trans hw251_0), ((HB.out.cell (World.block_lt_of_cell? w _ hw251_1)).trans hw251_1), ((HB.out.cell (World.block_lt_of_cell? w _ hw251_2)).trans hw251_2), ((HB.out.cell (World.block_lt_of_cell? w _ hw251_3)).trans hw251_3)⟩ (fun hHeld => ?_)
        clear hK K
        refine norm_ (a' := ?_) ?_ ?_
        rotate_left
        ·show Act.put _ (some 34) _ = _
         simp only [Act.put, sA, sB, sC, i64_w, i32_w]
         rfl
        refine pure_ (i := 14) (N := some 3) (v := ?_) (a' := ?_) (ba 15 32767) rfl rfl (any_of HT_.out (by kernel_rfl)) (fun _ _ _ h => h) (Or.inl ⟨by rfl, ?_⟩) ?_ ?_
        rotate_left
        ·intro w'
         go_simp
         with_reducible rfl
        rotate_left
        ·simp only [Act.put, sA, sB, sC, i64_w, i32_w]
         rfl
        refine done_ (done_of HT_.out (by kernel_rfl)) ?_
        try go_wp2
        go_roundg k1
        case measure => have := HK1.out; omega
        case rel => exact ⟨(y252), (wrap64 (x4_1 - 1)), (by first | rfl | (simp; done) | (simp [*]; done)), H', ⟨by have := HK1.out; omega⟩, ⟨by (with_reducible repeat (first | apply rA | apply rN | apply rD)); exact HO254.out⟩, ⟨bl⟩⟩
       ·rw [if_neg c7] at H
        exact absurd H (by simp)
      ·rw [if_neg c6] at H
       exact absurd H (by simp)
     ·rw [if_neg c5] at H
      exact absurd H (by simp)
    ·rw [if_neg c4] at H
     have c4b0 : decide (0 ≤ x4_1) = false := decide_eq_false c4
     clear c4
     have HC10 := aM H
     clear H
     go_upto_region 8 with (fail)
     go_cut [47] (fun v47 wc => ∃ (kq : Nat) (x47_9 : Bool), v47 = .bool x47_9 ∧ Aside0 (mapmakerlaw20_NodingClean.j1 kq l0 x47_9 = some r) ∧ Aside0 (kq ≤ k1) ∧ Aside0 (Below w.heap.size w wc))
     case first =>
      have H := HC10.out
      clear HC10
      replace H := Option.bind_eq_some_iff.mp H
      obtain ⟨t255, A110, H⟩ := H
      try dsimp only at H
      have A11 := aM A110
      clear A110
      replace H := Option.bind_eq_some_iff.mp H
      obtain ⟨t256, A120, H⟩ := H
      try dsimp only at H
      have A12 := aM A120
      clear A120
      by_cases c13 : (t255 != t256) = true
      ·rw [if_pos c13] at H
       have c13b0 : (t255 != t256) = true := c13
       (try (have c13b1 : decide (t255 = t256) = false := by simpa using c13))
       (try (have c13b2 : (t255 == t256) = false := by simpa using c13))
       (try (have c13b3 : ¬ (t255 = t256) := by simpa using c13))
       clear c13
       (first | rw [c13b0] | (simp only [i64_w, i32_w]; rw [c13b0]) | skip)
       have H' := aM H
       clear H
       obtain ⟨Ao14, co14, eo14⟩ := Kd.R_slice HO_3.out
       subst eo14
       go_wp2_with (first | ((with_reducible refine gate_callee (f := 21) rfl ?_); refine goesL_ (some 36) rfl rfl Try.func21 (by kernel_rfl) rfl #[.slice Ao14 x3_1.length co14] rfl (by (try simp only [List.map_toArray, List.map_cons, List.map_nil]); first | done | rfl | (simp only [List.length_drop, List.length_take]; rfl)) ?_; (with_reducible refine (noding_Clean.calls k1 _ _ x3_1 t255 _ ?side1 ?side2 A11.out).mono ?_); (case side1 => repeat (first | exact (rR HO_3.out).2.2 | (with_reducible refine cA ?_ _) | (with_reducible refine cN ?_ _) | (with_reducible refine cD ?_))); (case side2 => exact (rR HO_3.out).2.1); rintro e w15 ⟨rfl, hb⟩; refine ⟨_, rfl, ?_⟩; replace HO_3 := aM (rB (rl HO_3) hb); replace HB := aM (bS (bl) hb); (try clear hb); (try clear hb2); (try clear hk); (try clear hi)) | ((with_reducible refine gate_callee (f := 21) rfl ?_); refine goesL_ (some 38) rfl rfl Try.func21 (by kernel_rfl) rfl #[.slice A0 l0.length c0] rfl (by (try simp only [List.map_toArray, List.map_cons, List.map_nil]); first | done | rfl | (simp only [List.length_drop, List.length_take]; rfl)) ?_; (with_reducible refine (noding_Clean.calls k1 _ _ l0 t256 _ ?side1 ?side2 A12.out).mono ?_); (case side1 => repeat (first | exact (Kd.C_below HR0.out HB.out) | (with_reducible refine cA ?_ _) | (with_reducible refine cN ?_ _) | (with_reducible refine cD ?_))); (case side2 => exact HC0.out); rintro e w16 ⟨rfl, hb⟩; refine ⟨_, rfl, ?_⟩; replace HO_3 := aM (rB (rl HO_3) hb); replace HB := aM (bS (bl) hb); (try clear hb); (try clear hb2); (try clear hk); (try clear hi)))
       go_meet
       case rel => exact ⟨_, (true), (by first | rfl | (simp; done) | (simp [*]; done)), H', ⟨by have := HK1.out; first | omega | exact Nat.le_refl _⟩, ⟨bl⟩⟩
      ·rw [if_neg c13] at H
       have c13b0 : (t255 != t256) = false := by simpa using c13
       (try (have c13b1 : decide (t255 = t256) = true := by simpa using c13))
       (try (have c13b2 : (t255 == t256) = true := by simpa using c13))
       clear c13
       (first | rw [c13b0] | (simp only [i64_w, i32_w]; rw [c13b0]) | skip)
       replace H := Option.bind_eq_some_iff.mp H
       obtain ⟨t257, A170, H⟩ := H
       try dsimp only at H
       have A17 := aM A170
       clear A170
       replace H := Option.bind_eq_some_iff.mp H
       obtain ⟨t260, A180, H⟩ := H
       try dsimp only at H
       have A18 := aM A180
       clear A180
       replace H := Option.bind_eq_some_iff.mp H
       obtain ⟨t263, A190, H⟩ := H
       try dsimp only at H
       have A19 := aM A190
       clear A190
       have H' := aM H
       clear H
       obtain ⟨Ao20, co20, eo20⟩ := Kd.R_slice HO_3.out
       subst eo20
       go_wp2_with (first | ((with_reducible refine gate_callee (f := 21) rfl ?_); refine goesL_ (some 36) rfl rfl Try.func21 (by kernel_rfl) rfl #[.slice Ao20 x3_1.length co20] rfl (by (try simp only [List.map_toArray, List.map_cons, List.map_nil]); first | done | rfl | (simp only [List.length_drop, List.length_take]; rfl)) ?_; (with_reducible refine (noding_Clean.calls k1 _ _ x3_1 t255 _ ?side1 ?side2 A11.out).mono ?_); (case side1 => repeat (first | exact (rR HO_3.out).2.2 | (with_reducible refine cA ?_ _) | (with_reducible refine cN ?_ _) | (with_reducible refine cD ?_))); (case side2 => exact (rR HO_3.out).2.1); rintro e w21 ⟨rfl, hb⟩; refine ⟨_, rfl, ?_⟩; replace HO_3 := aM (rB (rl HO_3) hb); replace HB := aM (bS (bl) hb); (try clear hb); (try clear hb2); (try clear hk); (try clear hi)) | ((with_reducible refine gate_callee (f := 21) rfl ?_); refine goesL_ (some 38) rfl rfl Try.func21 (by kernel_rfl) rfl #[.slice A0 l0.length c0] rfl (by (try simp only [List.map_toArray, List.map_cons, List.map_nil]); first | done | rfl | (simp only [List.length_drop, List.length_take]; rfl)) ?_; (with_reducible refine (noding_Clean.calls k1 _ _ l0 t256 _ ?side1 ?side2 A12.out).mono ?_); (case side1 => repeat (first | exact (Kd.C_below HR0.out HB.out) | (with_reducible refine cA ?_ _) | (with_reducible refine cN ?_ _) | (with_reducible refine cD ?_))); (case side2 => exact HC0.out); rintro e w22 ⟨rfl, hb⟩; refine ⟨_, rfl, ?_⟩; replace HO_3 := aM (rB (rl HO_3) hb); replace HB := aM (bS (bl) hb); (try clear hb); (try clear hb2); (try clear hk); (try clear hi)) | (go_at_call 19; (with_reducible refine (noding_Split.calls k1 _ _ x3_1 t257 _ ?side1 ?side2 A17.out).mono ?_); (case side1 => repeat (first | exact (rR HO_3.out).2.2 | (with_reducible refine cA ?_ _) | (with_reducible refine cN ?_ _) | (with_reducible refine cD ?_))); (case side2 => exact (rR HO_3.out).2.1); rintro e w23 ⟨v258, rfl, ho0, hb⟩; have HO259 := aM (Kd.R_lower (Kd.R_new' ho0 (Kd.R_lt (rl HO_3))) (below_size (bl))); replace HO_3 := aM (rE (rl HO_3) (Kd.R_base ho0) hb); replace HB := aM (bS (bl) hb); (try clear hb); (try clear hb2); (try clear hk); (try clear hi); (try clear ho0)) | (go_at_call 19; (with_reducible refine (noding_Split.calls k1 _ _ l0 t260 _ ?side1 ?side2 A18.out).mono ?_); (case side1 => repeat (first | exact (Kd.C_below HR0.out HB.out) | (with_reducible refine cA ?_ _) | (with_reducible refine cN ?_ _) | (with_reducible refine cD ?_))); (case side2 => exact HC0.out); rintro e w24 ⟨v261, rfl, ho0, hb⟩; have HO262 := aM (Kd.R_lower (Kd.R_new' (Kd.R_new' ho0 (Kd.R_lt (rl HO_3))) (Kd.R_lt (rl HO259))) (below_size (bl))); replace HO_3 := aM (rE (rl HO_3) (Kd.R_base ho0) hb); replace HO259 := aM (rE (rl HO259) (Kd.R_base ho0) hb); replace HB := aM (bS (bl) hb); (try clear hb); (try clear hb2); (try clear hk); (try clear hi); (try clear ho0); obtain ⟨Ao25, co25, eo25⟩ := Kd.R_slice HO259.out; subst eo25; obtain ⟨Ao26, co26, eo26⟩ := Kd.R_slice HO262.out; subst eo26) | (go_at_call 10; (with_reducible refine (mapmakerref20_Same.calls k1 _ _ t257 _ _ t260 t263 _ ?side1 ?side2 ?side3 ?side4 A19.out).mono ?_); (case side1 => repeat (first | exact (rR HO259.out).2.2 | (with_reducible refine cA ?_ _) | (with_reducible refine cN ?_ _) | (with_reducible refine cD ?_))); (case side2 => exact (rR HO259.out).2.1); (case side3 => repeat (first | exact (rR HO262.out).2.2 | (with_reducible refine cA ?_ _) | (with_reducible refine cN ?_ _) | (with_reducible refine cD ?_))); (case side4 => exact (rR HO262.out).2.1); rintro e w' ⟨rfl, ⟨nd, rfl⟩⟩))
       go_meet
       case rel => exact ⟨_, (!t263), (by first | rfl | (simp; done) | (simp [*]; done)), H', ⟨by have := HK1.out; first | omega | exact Nat.le_refl _⟩, ⟨bl⟩⟩
     case rest =>
      clear HC10
      try clear c1
      try clear c2
      try clear p2
      try clear q2
      try clear hx2
      try clear c3
      try clear c4
      try clear c4b0
      try clear c5
      try clear c5b0
      try clear c6
      try clear c6b0
      try clear p6
      try clear c7
      try clear c8
      try clear c13
      try clear c13b0
      try clear c13b1
      try clear c13b2
      try clear c21
      try clear p25
      try clear q25
      try clear hx25
      try clear hx250_0
      try clear hx250_1
      try clear hx250_2
      try clear hx250_3
      try clear hx251_0
      try clear hx251_1
      try clear hx251_2
      try clear hx251_3
      try clear p2
      try clear p250
      try clear p251
      try clear q250
      try clear q251
      obtain ⟨kq, x47_9, rfl, HA, HJ9, HB⟩ := hcut
      cases kq with
      | zero => exact absurd HA.out (by simp [mapmakerlaw20_NodingClean.j1])
      | succ kj9 =>
       have H := HA.out
       clear HA
       simp only [mapmakerlaw20_NodingClean.j1] at H
       by_cases c27 : x47_9 = true
       ·subst c27
        have H1 : (some false) = some r := by rw [if_pos rfl] at H; exact H
        clear H
        have H := H1
        clear H1
        obtain rfl := Option.some.inj H
        go_wp2
        go_ret
        exact ⟨by first | rfl | (simp [errW_none, errW_some] <;> rfl) | (simp [*, errW_none, errW_some] <;> rfl), bl⟩
       ·replace c27 := Bool.eq_false_iff.mpr c27
        subst c27
        have H1 : ((noding_Unique.f kj9 l0).bind fun t264 => (mapmakerlaw20_NodingClean.l1 kj9 l0 t264 0)) = some r := by rw [if_neg (show ¬ (false = true) by decide)] at H; exact H
        clear H
        have H := H1
        clear H1
        replace H := Option.bind_eq_some_iff.mp H
        obtain ⟨t264, A280, H⟩ := H
        try dsimp only at H
        have A28 := aM A280
        clear A280
        have H' := aM H
        clear H
        go_wp2_with (first | ((with_reducible refine gate_callee (f := 15) rfl ?_); refine goesL_ (some 49) rfl rfl Try.func15 (by kernel_rfl) rfl #[.slice A0 l0.length c0] rfl (by (try simp only [List.map_toArray, List.map_cons, List.map_nil]); first | done | rfl | (simp only [List.length_drop, List.length_take]; rfl)) ?_; (with_reducible refine (noding_Unique.calls kj9 _ _ l0 t264 _ ?side1 ?side2 A28.out).mono ?_); (case side1 => repeat (first | exact (Kd.C_below HR0.out HB.out) | (with_reducible refine cA ?_ _) | (with_reducible refine cN ?_ _) | (with_reducible refine cD ?_))); (case side2 => exact HC0.out); rintro e w29 ⟨v265, rfl, ho0, hb⟩; refine ⟨_, rfl, ?_⟩; have HO266 := aM (Kd.R_lower ho0 (below_size (bl))); replace HB := aM (bS (bl) hb); (try clear hb); (try clear hb2); (try clear hk); (try clear hi); (try clear ho0)))
        go_loopg [6] kj9 (fun kq v6 w' => ∃ (x6_3 : Int), v6 = .int .i64 x6_3 ∧ Aside0 (mapmakerlaw20_NodingClean.l1 kq l0 t264 x6_3 = some r) ∧ Aside0 (kq ≤ kj9) ∧ Aside0 (Kd.R k35 35 w' w.heap.size (fun _ => True) v265 t264) ∧ Aside0 (Below w.heap.size w w'))
        case atStart => exact ⟨(0), (by first | rfl | (simp; done) | (simp [*]; done)), H', ⟨Nat.le_refl _⟩, ⟨by (with_reducible repeat (first | apply rA | apply rN | apply rD)); exact HO266.out⟩, ⟨bl⟩⟩
        case round =>
         clear H'
         try clear c1
         try clear c2
         try clear p2
         try clear q2
         try clear hx2
         try clear c3
         try clear c4
         try clear c4b0
         try clear c5
         try clear c5b0
         try clear c6
         try clear c6b0
         try clear p6
         try clear c7
         try clear c8
         try clear c13
         try clear c13b0
         try clear c13b1
         try clear c13b2
         try clear c15
         try clear c21
         try clear p25
         try clear q25
         try clear hx25
         try clear c27
         try clear hx250_0
         try clear hx250_1
         try clear hx250_2
         try clear hx250_3
         try clear hx251_0
         try clear hx251_1
         try clear hx251_2
         try clear hx251_3
         try clear p2
         try clear p25
         try clear p250
         try clear p251
         try clear p6
         try clear q2
         try clear q25
         try clear q250
         try clear q251
         obtain ⟨x6_3, rfl, HA, HK3, HO_5, HB⟩ := hrel
         cases gk with
         | zero => exact absurd HA.out (by simp [mapmakerlaw20_NodingClean.l1])
         | succ k3 =>
          have H := HA.out
          clear HA
          simp only [mapmakerlaw20_NodingClean.l1] at H
          have HC30 := aM H
          clear H
          go_upto_region 12 with (fail)
          go_cut [57] (fun v57 wc => ∃ (kq : Nat) (x57_29 : Bool), v57 = .bool x57_29 ∧ Aside0 (mapmakerlaw20_NodingClean.j3 kq l0 t264 x6_3 x57_29 = some r) ∧ Aside0 (kq ≤ k3) ∧ Aside0 (Kd.R k35 35 wc w.heap.size (fun _ => True) v265 t264) ∧ Aside0 (Below w.heap.size w wc))
          case first =>
           have H := HC30.out
           clear HC30
           by_cases c31 : x6_3 < (t264.length : Int)
           ·rw [if_pos c31] at H
            have c31b0 : decide (x6_3 < (t264.length : Int)) = true := decide_eq_true c31
            clear c31
            (first | rw [c31b0] | (simp only [i64_w, i32_w]; rw [c31b0]) | skip)
            replace H := Option.bind_eq_some_iff.mp H
            obtain ⟨t267, A320, H⟩ := H
            try dsimp only at H
            have A32 := aM A320
            clear A320
            have H' := aM H
            clear H
            obtain ⟨Ao33, co33, eo33⟩ := Kd.R_slice HO_5.out
            subst eo33
            go_wp2_with (first | (go_at_call 21; (with_reducible refine (noding_Clean.calls k3 _ _ l0 t267 _ ?side1 ?side2 A32.out).mono ?_); (case side1 => repeat (first | exact (Kd.C_below HR0.out HB.out) | (with_reducible refine cA ?_ _) | (with_reducible refine cN ?_ _) | (with_reducible refine cD ?_))); (case side2 => exact HC0.out); rintro e w34 ⟨rfl, hb⟩; replace HO_5 := aM (rB (rl HO_5) hb); replace HB := aM (bS (bl) hb); (try clear hb); (try clear hb2); (try clear hk); (try clear hi)))
            go_meet
            case rel => exact ⟨_, (t267), (by first | rfl | (simp; done) | (simp [*]; done)), H', ⟨by have := HK1.out; have := HJ9.out; have := HK3.out; first | omega | exact Nat.le_refl _⟩, ⟨by (with_reducible repeat (first | apply rA | apply rN | apply rD)); exact HO_5.out⟩, ⟨bl⟩⟩
           ·rw [if_neg c31] at H
            have c31b0 : decide (x6_3 < (t264.length : Int)) = false := decide_eq_false c31
            clear c31
            (first | rw [c31b0] | (simp only [i64_w, i32_w]; rw [c31b0]) | skip)
            have H' := aM H
            clear H
            obtain ⟨Ao35, co35, eo35⟩ := Kd.R_slice HO_5.out
            subst eo35
            go_wp2
            go_meet
            case rel => exact ⟨_, (false), (by first | rfl | (simp; done) | (simp [*]; done)), H', ⟨by have := HK1.out; have := HJ9.out; have := HK3.out; first | omega | exact Nat.le_refl _⟩, ⟨by (with_reducible repeat (first | apply rA | apply rN | apply rD)); exact HO_5.out⟩, ⟨bl⟩⟩
          case rest =>
           clear HC30
           try clear c1
           try clear c2
           try clear p2
           try clear q2
           try clear hx2
           try clear c3
           try clear c4
           try clear c4b0
           try clear c5
           try clear c5b0
           try clear c6
           try clear c6b0
           try clear p6
           try clear c7
           try clear c8
           try clear c13
           try clear c13b0
           try clear c13b1
           try clear c13b2
           try clear c15
           try clear c21
           try clear p25
           try clear q25
           try clear hx25
           try clear c27
           try clear c31
           try clear c31b0
           try clear hx250_0
           try clear hx250_1
           try clear hx250_2
           try clear hx250_3
           try clear hx251_0
           try clear hx251_1
           try clear hx251_2
           try clear hx251_3
           try clear p2
           try clear p25
           try clear p250
           try clear p251
           try clear p6
           try clear q2
           try clear q25
           try clear q250
           try clear q251
           obtain ⟨kq, x57_29, rfl, HA, HJ29, HO_5, HB⟩ := hcut
           cases kq with
           | zero => exact absurd HA.out (by simp [mapmakerlaw20_NodingClean.j3])
           | succ kj29 =>
            have H := HA.out
            clear HA
            simp only [mapmakerlaw20_NodingClean.j3] at H
            by_cases c36 : x57_29 = true
            ·subst c36
             have H1 : (mapmakerlaw20_NodingClean.l2 kj29 l0 t264 x6_3 0) = some r := by rw [if_pos rfl] at H; exact H
             clear H
             have H := H1
             clear H1
             have H' := aM H
             clear H
             go_wp2
             go_loopg [7] kj29 (fun kq v7 w' => ∃ (x7_5 : Int), v7 = .int .i64 x7_5 ∧ Aside0 (mapmakerlaw20_NodingClean.l2 kq l0 t264 x6_3 x7_5 = some r) ∧ Aside0 (kq ≤ kj29) ∧ Aside0 (Kd.R k35 35 w' w.heap.size (fun _ => True) v265 t264) ∧ Aside0 (Below w.heap.size w w'))
             case atStart => exact ⟨(0), (by first | rfl | (simp; done) | (simp [*]; done)), H', ⟨Nat.le_refl _⟩, ⟨by (with_reducible repeat (first | apply rA | apply rN | apply rD)); exact HO_5.out⟩, ⟨bl⟩⟩
             case round =>
              clear H'
              try clear c1
              try clear c2
              try clear p2
              try clear q2
              try clear hx2
              try clear c3
              try clear c4
              try clear c4b0
              try clear c5
              try clear c5b0
              try clear c6
              try clear c6b0
              try clear p6
              try clear c7
              try clear c8
              try clear c13
              try clear c13b0
              try clear c13b1
              try clear c13b2
              try clear c15
              try clear c21
              try clear p25
              try clear q25
              try clear hx25
              try clear c27
              try clear c31
              try clear c31b0
              try clear c36
              try clear hx250_0
              try clear hx250_1
              try clear hx250_2
              try clear hx250_3
              try clear hx251_0
              try clear hx251_1
              try clear hx251_2
              try clear hx251_3
              try clear p2
              try clear p25
              try clear p250
              try clear p251
              try clear p6
              try clear q2
              try clear q25
              try clear q250
              try clear q251
              obtain ⟨x7_5, rfl, HA, HK5, HO_5, HB⟩ := hrel
              cases gk with
              | zero => exact absurd HA.out (by simp [mapmakerlaw20_NodingClean.l2])
              | succ k5 =>
               have H := HA.out
               clear HA
               simp only [mapmakerlaw20_NodingClean.l2] at H
               by_cases c37 : x7_5 < x6_3
               ·rw [if_pos c37] at H
                have c37b0 : decide (x7_5 < x6_3) = true := decide_eq_true c37
                clear c37
                by_cases c38 : 0 ≤ x6_3
                ·rw [if_pos c38] at H
                 have c38b0 : decide (0 ≤ x6_3) = true := decide_eq_true c38
                 clear c38
                 by_cases c39 : x6_3 < (t264.length : Int)
                 ·rw [if_pos c39] at H
                  have c39b0 : decide (x6_3 < (t264.length : Int)) = true := decide_eq_true c39
                  clear c39
                  by_cases c40 : 0 ≤ x7_5
                  ·rw [if_pos c40] at H
                   have c40b0 : decide (0 ≤ x7_5) = true := decide_eq_true c40
                   clear c40
                   by_cases c41 : x7_5 < (t264.length : Int)
                   ·rw [if_pos c41] at H
                    have c41b0 : decide (x7_5 < (t264.length : Int)) = true := decide_eq_true c41
                    clear c41
                    by_cases c42 : (((rd_T35 t264 x6_3).f0.f0) == ((rd_T35 t264 x7_5).f0.f0) && (((rd_T35 t264 x6_3).f0.f1) == ((rd_T35 t264 x7_5).f0.f1))) = true
                    ·rw [if_pos c42] at H
                     have c42b0 : (((rd_T35 t264 x6_3).f0.f0) == ((rd_T35 t264 x7_5).f0.f0) && (((rd_T35 t264 x6_3).f0.f1) == ((rd_T35 t264 x7_5).f0.f1))) = true := c42
                     (try (have c42b1 : decide (((rd_T35 t264 x6_3).f0.f0) = ((rd_T35 t264 x7_5).f0.f0) && (((rd_T35 t264 x6_3).f0.f1) == ((rd_T35 t264 x7_5).f0.f1))) = true := by simpa using c42))
                     (try (have c42b2 : (((rd_T35 t264 x6_3).f0.f0) == ((rd_T35 t264 x7_5).f0.f0) && (((rd_T35 t264 x6_3).f0.f1) == ((rd_T35 t264 x7_5).f0.f1))) = true := by simpa using c42))
                     clear c42
                     replace H := Option.bind_eq_some_iff.mp H
                     obtain ⟨t273, A430, H⟩ := H
                     try dsimp only at H
                     have A43 := aM A430
                     clear A430
                     have HZ := aM H
                     clear H
                     try go_wp2
                     replace HO_5 := aM (rD HO_5.out)
                     replace HB := aM (bD HB.out)
                     obtain ⟨Ao55, co55, eo55⟩ := Kd.R_slice HO_5.out
                     (first | subst eo55 | (injection eo55 with f1_ f2_ f3_; have f4_ := f1_.symm; have f5_ := f3_.symm; clear f1_ f2_ f3_; subst f4_; subst f5_))
                     have p269 : 0 ≤ (x6_3 : Int) := of_decide_eq_true (by first | (with_reducible assumption) | assumption)
                     have q269 : x6_3 < (t264.length : Int) := of_decide_eq_true (by first | (with_reducible assumption) | assumption)
                     obtain ⟨ad269, e269, hx269_0, hx269_1, hx269_2, hx269_3⟩ := at_T35 (rR HO_5.out).2.2 x6_3 p269 q269
                     cases e269
                     replace p269 := eq_true p269
                     replace q269 := eq_true q269
                     have p270 : 0 ≤ (x7_5 : Int) := of_decide_eq_true (by first | (with_reducible assumption) | assumption)
                     have q270 : x7_5 < (t264.length : Int) := of_decide_eq_true (by first | (with_reducible assumption) | assumption)
                     obtain ⟨ad270, e270, hx270_0, hx270_1, hx270_2, hx270_3⟩ := at_T35 (rR HO_5.out).2.2 x7_5 p270 q270
                     obtain rfl : ad269 = ad270 := (by injection e270)
                     replace p270 := eq_true p270
                     replace q270 := eq_true q270
                     refine start_ (n := 51) (S := fun w' => w'.cell? (ad269.add ((x6_3).toNat * 4)) = some (.int .i64 ((rd_T35 t264 x6_3).f0.f0)) ∧ w'.cell? ⟨(ad269.add ((x6_3).toNat * 4)).block, (ad269.add ((x6_3).toNat * 4)).off + 1, none⟩ = some (.int .i64 ((rd_T35 t264 x6_3).f0.f1)) ∧ w'.cell? ⟨(ad269.add ((x6_3).toNat * 4)).block, (ad269.add ((x6_3).toNat * 4)).off + 2, none⟩ = some (.int .i64 ((rd_T35 t264 x6_3).f1.f0)) ∧ w'.cell? ⟨(ad269.add ((x6_3).toNat * 4)).block, (ad269.add ((x6_3).toNat * 4)).off + 3, none⟩ = some (.int .i64 ((rd_T35 t264 x6_3).f1.f1)) ∧ w'.cell? (ad269.add ((x7_5).toNat * 4)) = some (.int .i64 ((rd_T35 t264 x7_5).f0.f0)) ∧ w'.cell? ⟨(ad269.add ((x7_5).toNat * 4)).block, (ad269.add ((x7_5).toNat * 4)).off + 1, none⟩ = some (.int .i64 ((rd_T35 t264 x7_5).f0.f1)) ∧ w'.cell? ⟨(ad269.add ((x7_5).toNat * 4)).block, (ad269.add ((x7_5).toNat * 4)).off + 2, none⟩ = some (.int .i64 ((rd_T35 t264 x7_5).f1.f0)) ∧ w'.cell? ⟨(ad269.add ((x7_5).toNat * 4)).block, (ad269.add ((x7_5).toNat * 4)).off + 3, none⟩ = some (.int .i64 ((rd_T35 t264 x7_5).f1.f1))) (ds := []) #[false, false, false, false, false, false, false, false, false, false, false, false, false, false, false, false, false, false, false, false, false, false, false, false, false, false, false, false, false, false, false, false, false, false, false, false, false, false, false, false, false, false, false, false, false, false, false, false, false, false, false] (by kernel_rfl) rfl rfl ⟨hx269_0, hx269_1, hx269_2, hx269_3, hx270_0, hx270_1, hx270_2, hx270_3⟩ (fun hHeld => ?_); refine with_tabW mapmakerlaw20_NodingClean.tab17 mapmakerlaw20_NodingClean.bits17 (fun HT_ HW_ => ?_)
                     generalize wr.drew = w54 at HO_5 HB hx269_0 hx269_1 hx269_2 hx269_3 hx270_0 hx270_1 hx270_2 hx270_3 hHeld ⊢
                     refine pure_ (i := 0) (N := some 65) (v := ?_) (a' := ?_) (ba 51 1) rfl rfl (any_of HT_.out (by kernel_rfl)) (fun _ _ _ h => h) (Or.inl ⟨by rfl, ?_⟩) ?_ ?_
                     rotate_left
                     ·intro w'
                      go_simp
                      with_reducible rfl
                     rotate_left
                     ·simp only [Act.put, sA, sB, sC, i64_w, i32_w]
                      rfl
                     refine pure_ (i := 1) (N := some 66) (v := ?_) (a' := ?_) (ba 51 3) rfl rfl (any_of HT_.out (by kernel_rfl)) (fun _ _ _ h => h) (Or.inl ⟨by rfl, ?_⟩) ?_ ?_
                     rotate_left
                     ·intro w'
                      go_simp
                      with_reducible rfl
                     rotate_left
                     ·simp only [Act.put, sA, sB, sC, i64_w, i32_w]
                      rfl
                     refine pure_ (i := 2) (N := some 67) (v := ?_) (a' := ?_) (ba 51 7) rfl rfl (any_of HT_.out (by kernel_rfl)) (fun _ _ _ h => h) (Or.inl ⟨by rfl, ?_⟩) ?_ ?_
                     rotate_left
                     ·intro w'
                      go_simp
                      with_reducible rfl
                     rotate_left
                     ·simp only [Act.put, sA, sB, sC, i64_w, i32_w]
                      rfl
                     refine pure_ (i := 3) (N := some 68) (v := ?_) (a' := ?_) (ba 51 15) rfl rfl (any_of HT_.out (by kernel_rfl)) (fun _ _ _ h => h) (Or.inl ⟨by rfl, ?_⟩) ?_ ?_
                     rotate_left
                     ·intro w'
                      go_simp
                      with_reducible rfl
                     rotate_left
                     ·simp only [Act.put, sA, sB, sC, i64_w, i32_w]
                      rfl
                     refine pure_ (i := 5) (N := some 70) (v := ?_) (a' := ?_) (ba 51 47) rfl rfl (any_of HT_.out (by kernel_rfl)) (fun _ _ _ h => h) (Or.inl ⟨by rfl, ?_⟩) ?_ ?_
                     rotate_left
                     ·intro w'
                      go_simp
                      with_reducible rfl
                     rotate_left
                     ·simp only [Act.put, sA, sB, sC, i64_w, i32_w]
                      rfl
                     refine pure_ (i := 6) (N := some 71) (v := ?_) (a' := ?_) (ba 51 111) rfl rfl (any_of HT_.out (by kernel_rfl)) (fun _ _ _ h => h) (Or.inl ⟨by rfl, ?_⟩) ?_ ?_
                     rotate_left
                     ·intro w'
                      go_simp
                      with_reducible rfl
                     rotate_left
                     ·simp only [Act.put, sA, sB, sC, i64_w, i32_w]
                      rfl
                     refine pure_ (i := 7) (N := some 72) (v := ?_) (a' := ?_) (ba 51 239) rfl rfl (any_of HT_.out (by kernel_rfl)) (fun _ _ _ h => h) (Or.inl ⟨by rfl, ?_⟩) ?_ ?_
                     rotate_left
                     ·intro w'
                      go_simp
                      with_reducible rfl
                     rotate_left
                     ·simp only [Act.put, sA, sB, sC, i64_w, i32_w]
                      rfl
                     refine pure_ (i := 8) (N := some 73) (v := ?_) (a' := ?_) (ba 51 495) rfl rfl (any_of HT_.out (by kernel_rfl)) (fun _ _ _ h => h) (Or.inl ⟨by rfl, ?_⟩) ?_ ?_
                     rotate_left
                     ·intro w'
                      go_simp
                      with_reducible rfl
                     rotate_left
                     ·simp only [Act.put, sA, sB, sC, i64_w, i32_w]
                      rfl
                     refine take_ (i := 4) (N := some 69) (v := ?_) (a' := ?_) (ba 51 511) rfl rfl (take_ofW HT_.out HW_.out (by kernel_rfl)) (fun _ _ _ h => h) (Or.inl ⟨by rfl, ?_⟩) hHeld ?_ ?_
                     rotate_left
                     ·rintro w' ⟨s0, s1, s2, s3, s4, s5, s6, s7⟩
                      go_simp
                      with_reducible rfl
                     rotate_left
                     ·simp only [Act.put, sA, sB, sC, i64_w, i32_w]
                      rfl
                     refine take_ (i := 9) (N := some 74) (v := ?_) (a' := ?_) (ba 51 1023) rfl rfl (take_ofW HT_.out HW_.out (by kernel_rfl)) (fun _ _ _ h => h) (Or.inl ⟨by rfl, ?_⟩) hHeld ?_ ?_
                     rotate_left
                     ·rintro w' ⟨s0, s1, s2, s3, s4, s5, s6, s7⟩
                      go_simp
                      with_reducible rfl
                     rotate_left
                     ·simp only [Act.put, sA, sB, sC, i64_w, i32_w]
                      rfl
                     refine pure_ (i := 10) (N := some 75) (v := ?_) (a' := ?_) (ba 51 2047) rfl rfl (any_of HT_.out (by kernel_rfl)) (fun _ _ _ h => h) (Or.inl ⟨by rfl, ?_⟩) ?_ ?_
                     rotate_left
                     ·intro w'
                      go_simp
                      with_reducible rfl
                     rotate_left
                     ·simp only [Act.put, sA, sB, sC, i64_w, i32_w]
                      rfl
                     refine pure_ (i := 11) (N := some 76) (v := ?_) (a' := ?_) (ba 51 4095) rfl rfl (any_of HT_.out (by kernel_rfl)) (fun _ _ _ h => h) (Or.inl ⟨by rfl, ?_⟩) ?_ ?_
                     rotate_left
                     ·intro w'
                      go_simp
                      with_reducible rfl
                     rotate_left
                     ·simp only [Act.put, sA, sB, sC, i64_w, i32_w]
                      rfl
                     refine pure_ (i := 12) (N := some 77) (v := undef) (a' := ?_) (ba 51 8191) rfl rfl (any_of HT_.out (by kernel_rfl)) (fun _ _ _ h => h) (Or.inr ⟨by rfl, rfl⟩) ?_ ?_
                     rotate_left
                     ·simp only [Act.put, sA, sB, sC, i64_w, i32_w]
                      rfl
                     refine pure_ (i := 13) (N := some 78) (v := undef) (a' := ?_) (ba 51 16383) rfl rfl (any_of HT_.out (by kernel_rfl)) (fun _ _ _ h => h) (Or.inr ⟨by rfl, rfl⟩) ?_ ?_
                     rotate_left
                     ·simp only [Act.put, sA, sB, sC, i64_w, i32_w]
                      rfl
                     refine pure_ (i := 14) (N := some 79) (v := undef) (a' := ?_) (ba 51 32767) rfl rfl (any_of HT_.out (by kernel_rfl)) (fun _ _ _ h => h) (Or.inr ⟨by rfl, rfl⟩) ?_ ?_
                     rotate_left
                     ·simp only [Act.put, sA, sB, sC, i64_w, i32_w]
                      rfl
                     refine pure_ (i := 15) (N := some 80) (v := undef) (a' := ?_) (ba 51 65535) rfl rfl (any_of HT_.out (by kernel_rfl)) (fun _ _ _ h => h) (Or.inr ⟨by rfl, rfl⟩) ?_ ?_
                     rotate_left
                     ·simp only [Act.put, sA, sB, sC, i64_w, i32_w]
                      rfl
                     refine pure_ (i := 16) (N := some 81) (v := undef) (a' := ?_) (ba 51 131071) rfl rfl (any_of HT_.out (by kernel_rfl)) (fun _ _ _ h => h) (Or.inr ⟨by rfl, rfl⟩) ?_ ?_
                     rotate_left
                     ·simp only [Act.put, sA, sB, sC, i64_w, i32_w]
                      rfl
                     refine pure_ (i := 17) (N := some 82) (v := undef) (a' := ?_) (ba 51 262143) rfl rfl (any_of HT_.out (by kernel_rfl)) (fun _ _ _ h => h) (Or.inr ⟨by rfl, rfl⟩) ?_ ?_
                     rotate_left
                     ·simp only [Act.put, sA, sB, sC, i64_w, i32_w]
                      rfl
                     refine pure_ (i := 18) (N := some 83) (v := undef) (a' := ?_) (ba 51 524287) rfl rfl (any_of HT_.out (by kernel_rfl)) (fun _ _ _ h => h) (Or.inr ⟨by rfl, rfl⟩) ?_ ?_
                     rotate_left
                     ·simp only [Act.put, sA, sB, sC, i64_w, i32_w]
                      rfl
                     refine pure_ (i := 19) (N := some 84) (v := undef) (a' := ?_) (ba 51 1048575) rfl rfl (any_of HT_.out (by kernel_rfl)) (fun _ _ _ h => h) (Or.inr ⟨by rfl, rfl⟩) ?_ ?_
                     rotate_left
                     ·simp only [Act.put, sA, sB, sC, i64_w, i32_w]
                      rfl
                     refine pure_ (i := 20) (N := some 85) (v := undef) (a' := ?_) (ba 51 2097151) rfl rfl (any_of HT_.out (by kernel_rfl)) (fun _ _ _ h => h) (Or.inr ⟨by rfl, rfl⟩) ?_ ?_
                     rotate_left
                     ·simp only [Act.put, sA, sB, sC, i64_w, i32_w]
                      rfl
                     refine pure_ (i := 21) (N := some 86) (v := undef) (a' := ?_) (ba 51 4194303) rfl rfl (any_of HT_.out (by kernel_rfl)) (fun _ _ _ h => h) (Or.inr ⟨by rfl, rfl⟩) ?_ ?_
                     rotate_left
                     ·simp only [Act.put, sA, sB, sC, i64_w, i32_w]
                      rfl
                     refine pure_ (i := 22) (N := some 87) (v := undef) (a' := ?_) (ba 51 8388607) rfl rfl (any_of HT_.out (by kernel_rfl)) (fun _ _ _ h => h) (Or.inr ⟨by rfl, rfl⟩) ?_ ?_
                     rotate_left
                     ·simp only [Act.put, sA, sB, sC, i64_w, i32_w]
                      rfl
                     refine pure_ (i := 23) (N := some 88) (v := ?_) (a' := ?_) (ba 51 16777215) rfl rfl (any_of HT_.out (by kernel_rfl)) (fun _ _ _ h => h) (Or.inl ⟨by rfl, ?_⟩) ?_ ?_
                     rotate_left
                     ·intro w'
                      go_simp
                      with_reducible rfl
                     rotate_left
                     ·simp only [Act.put, sA, sB, sC, i64_w, i32_w]
                      rfl
                     refine pure_ (i := 24) (N := some 89) (v := ?_) (a' := ?_) (ba 51 33554431) rfl rfl (any_of HT_.out (by kernel_rfl)) (fun _ _ _ h => h) (Or.inl ⟨by rfl, ?_⟩) ?_ ?_
                     rotate_left
                     ·intro w'
                      go_simp
                      with_reducible rfl
                     rotate_left
                     ·simp only [Act.put, sA, sB, sC, i64_w, i32_w]
                      rfl
                     refine pure_ (i := 25) (N := some 90) (v := undef) (a' := ?_) (ba 51 67108863) rfl rfl (any_of HT_.out (by kernel_rfl)) (fun _ _ _ h => h) (Or.inr ⟨by rfl, rfl⟩) ?_ ?_
                     rotate_left
                     ·simp only [Act.put, sA, sB, sC, i64_w, i32_w]
                      rfl
                     refine pure_ (i := 26) (N := some 91) (v := undef) (a' := ?_) (ba 51 134217727) rfl rfl (any_of HT_.out (by kernel_rfl)) (fun _ _ _ h => h) (Or.inr ⟨by rfl, rfl⟩) ?_ ?_
                     rotate_left
                     ·simp only [Act.put, sA, sB, sC, i64_w, i32_w]
                      rfl
                     refine pure_ (i := 27) (N := some 92) (v := undef) (a' := ?_) (ba 51 268435455) rfl rfl (any_of HT_.out (by kernel_rfl)) (fun _ _ _ h => h) (Or.inr ⟨by rfl, rfl⟩) ?_ ?_
                     rotate_left
                     ·simp only [Act.put, sA, sB, sC, i64_w, i32_w]
                      rfl
                     refine pure_ (i := 28) (N := some 93) (v := undef) (a' := ?_) (ba 51 536870911) rfl rfl (any_of HT_.out (by kernel_rfl)) (fun _ _ _ h => h) (Or.inr ⟨by rfl, rfl⟩) ?_ ?_
                     rotate_left
                     ·simp only [Act.put, sA, sB, sC, i64_w, i32_w]
                      rfl
                     refine pure_ (i := 29) (N := some 94) (v := undef) (a' := ?_) (ba 51 1073741823) rfl rfl (any_of HT_.out (by kernel_rfl)) (fun _ _ _ h => h) (Or.inr ⟨by rfl, rfl⟩) ?_ ?_
                     rotate_left
                     ·simp only [Act.put, sA, sB, sC, i64_w, i32_w]
                      rfl
                     refine pure_ (i := 30) (N := some 95) (v := undef) (a' := ?_) (ba 51 2147483647) rfl rfl (any_of HT_.out (by kernel_rfl)) (fun _ _ _ h => h) (Or.inr ⟨by rfl, rfl⟩) ?_ ?_
                     rotate_left
                     ·simp only [Act.put, sA, sB, sC, i64_w, i32_w]
                      rfl
                     refine pure_ (i := 31) (N := some 96) (v := undef) (a' := ?_) (ba 51 4294967295) rfl rfl (any_of HT_.out (by kernel_rfl)) (fun _ _ _ h => h) (Or.inr ⟨by rfl, rfl⟩) ?_ ?_
                     rotate_left
                     ·simp only [Act.put, sA, sB, sC, i64_w, i32_w]
                      rfl
                     refine pure_ (i := 32) (N := some 97) (v := undef) (a' := ?_) (ba 51 8589934591) rfl rfl (any_of HT_.out (by kernel_rfl)) (fun _ _ _ h => h) (Or.inr ⟨by rfl, rfl⟩) ?_ ?_
                     rotate_left
                     ·simp only [Act.put, sA, sB, sC, i64_w, i32_w]
                      rfl
                     refine pure_ (i := 33) (N := some 98) (v := undef) (a' := ?_) (ba 51 17179869183) rfl rfl (any_of HT_.out (by kernel_rfl)) (fun _ _ _ h => h) (Or.inr ⟨by rfl, rfl⟩) ?_ ?_
                     rotate_left
                     ·simp only [Act.put, sA, sB, sC, i64_w, i32_w]
                      rfl
                     refine pure_ (i := 34) (N := some 99) (v := undef) (a' := ?_) (ba 51 34359738367) rfl rfl (any_of HT_.out (by kernel_rfl)) (fun _ _ _ h => h) (Or.inr ⟨by rfl, rfl⟩) ?_ ?_
                     rotate_left
                     ·simp only [Act.put, sA, sB, sC, i64_w, i32_w]
                      rfl
                     refine pure_ (i := 35) (N := some 100) (v := undef) (a' := ?_) (ba 51 68719476735) rfl rfl (any_of HT_.out (by kernel_rfl)) (fun _ _ _ h => h) (Or.inr ⟨by rfl, rfl⟩) ?_ ?_
                     rotate_left
                     ·simp only [Act.put, sA, sB, sC, i64_w, i32_w]
                      rfl
                     refine pure_ (i := 36) (N := some 101) (v := ?_) (a' := ?_) (ba 51 137438953471) rfl rfl (any_of HT_.out (by kernel_rfl)) (fun _ _ _ h => h) (Or.inl ⟨by rfl, ?_⟩) ?_ ?_
                     rotate_left
                     ·intro w'
                      go_simp
                      with_reducible rfl
                     rotate_left
                     ·simp only [Act.put, sA, sB, sC, i64_w, i32_w]
                      rfl
                     refine pure_ (i := 37) (N := some 102) (v := ?_) (a' := ?_) (ba 51 274877906943) rfl rfl (any_of HT_.out (by kernel_rfl)) (fun _ _ _ h => h) (Or.inl ⟨by rfl, ?_⟩) ?_ ?_
                     rotate_left
                     ·intro w'
                      go_simp
                      with_reducible rfl
                     rotate_left
                     ·simp only [Act.put, sA, sB, sC, i64_w, i32_w]
                      rfl
                     refine pure_ (i := 38) (N := some 103) (v := undef) (a' := ?_) (ba 51 549755813887) rfl rfl (any_of HT_.out (by kernel_rfl)) (fun _ _ _ h => h) (Or.inr ⟨by rfl, rfl⟩) ?_ ?_
                     rotate_left
                     ·simp only [Act.put, sA, sB, sC, i64_w, i32_w]
                      rfl
                     refine pure_ (i := 39) (N := some 104) (v := undef) (a' := ?_) (ba 51 1099511627775) rfl rfl (any_of HT_.out (by kernel_rfl)) (fun _ _ _ h => h) (Or.inr ⟨by rfl, rfl⟩) ?_ ?_
                     rotate_left
                     ·simp only [Act.put, sA, sB, sC, i64_w, i32_w]
                      rfl
                     refine pure_ (i := 40) (N := some 105) (v := undef) (a' := ?_) (ba 51 2199023255551) rfl rfl (any_of HT_.out (by kernel_rfl)) (fun _ _ _ h => h) (Or.inr ⟨by rfl, rfl⟩) ?_ ?_
                     rotate_left
                     ·simp only [Act.put, sA, sB, sC, i64_w, i32_w]
                      rfl
                     refine pure_ (i := 41) (N := some 106) (v := undef) (a' := ?_) (ba 51 4398046511103) rfl rfl (any_of HT_.out (by kernel_rfl)) (fun _ _ _ h => h) (Or.inr ⟨by rfl, rfl⟩) ?_ ?_
                     rotate_left
                     ·simp only [Act.put, sA, sB, sC, i64_w, i32_w]
                      rfl
                     refine pure_ (i := 42) (N := some 107) (v := undef) (a' := ?_) (ba 51 8796093022207) rfl rfl (any_of HT_.out (by kernel_rfl)) (fun _ _ _ h => h) (Or.inr ⟨by rfl, rfl⟩) ?_ ?_
                     rotate_left
                     ·simp only [Act.put, sA, sB, sC, i64_w, i32_w]
                      rfl
                     refine pure_ (i := 43) (N := some 108) (v := undef) (a' := ?_) (ba 51 17592186044415) rfl rfl (any_of HT_.out (by kernel_rfl)) (fun _ _ _ h => h) (Or.inr ⟨by rfl, rfl⟩) ?_ ?_
                     rotate_left
                     ·simp only [Act.put, sA, sB, sC, i64_w, i32_w]
                      rfl
                     refine pure_ (i := 44) (N := some 109) (v := undef) (a' := ?_) (ba 51 35184372088831) rfl rfl (any_of HT_.out (by kernel_rfl)) (fun _ _ _ h => h) (Or.inr ⟨by rfl, rfl⟩) ?_ ?_
                     rotate_left
                     ·simp only [Act.put, sA, sB, sC, i64_w, i32_w]
                      rfl
                     refine pure_ (i := 45) (N := some 110) (v := undef) (a' := ?_) (ba 51 70368744177663) rfl rfl (any_of HT_.out (by kernel_rfl)) (fun _ _ _ h => h) (Or.inr ⟨by rfl, rfl⟩) ?_ ?_
                     rotate_left
                     ·simp only [Act.put, sA, sB, sC, i64_w, i32_w]
                      rfl
                     refine pure_ (i := 46) (N := some 111) (v := undef) (a' := ?_) (ba 51 140737488355327) rfl rfl (any_of HT_.out (by kernel_rfl)) (fun _ _ _ h => h) (Or.inr ⟨by rfl, rfl⟩) ?_ ?_
                     rotate_left
                     ·simp only [Act.put, sA, sB, sC, i64_w, i32_w]
                      rfl
                     refine pure_ (i := 47) (N := some 112) (v := undef) (a' := ?_) (ba 51 281474976710655) rfl rfl (any_of HT_.out (by kernel_rfl)) (fun _ _ _ h => h) (Or.inr ⟨by rfl, rfl⟩) ?_ ?_
                     rotate_left
                     ·simp only [Act.put, sA, sB, sC, i64_w, i32_w]
                      rfl
                     refine pure_ (i := 48) (N := some 113) (v := undef) (a' := ?_) (ba 51 562949953421311) rfl rfl (any_of HT_.out (by kernel_rfl)) (fun _ _ _ h => h) (Or.inr ⟨by rfl, rfl⟩) ?_ ?_
                     rotate_left
                     ·simp only [Act.put, sA, sB, sC, i64_w, i32_w]
                      rfl
                     refine pure_ (i := 49) (N := some 114) (v := ?_) (a' := ?_) (ba 51 1125899906842623) rfl rfl (any_of HT_.out (by kernel_rfl)) (fun _ _ _ h => h) (Or.inl ⟨by rfl, ?_⟩) ?_ ?_
                     rotate_left
                     ·intro w'
                      go_simp
                      with_reducible rfl
                     rotate_left
                     ·simp only [Act.put, sA, sB, sC, i64_w, i32_w]
                      rfl
                     refine pure_ (i := 50) (N := some 8) (v := ?_) (a' := ?_) (ba 51 2251799813685247) rfl rfl (any_of HT_.out (by kernel_rfl)) (fun _ _ _ h => h) (Or.inl ⟨by rfl, ?_⟩) ?_ ?_
                     rotate_left
                     ·intro w'
                      go_simp
                      with_reducible rfl
                     rotate_left
                     ·simp only [Act.put, sA, sB, sC, i64_w, i32_w]
                      rfl
                     refine done_ (done_of HT_.out (by kernel_rfl)) ?_
                     try go_wp2
                     replace HO_5 := aM (rD HO_5.out)
                     replace HB := aM (bD HB.out)
                     have p271 : 0 ≤ (x6_3 : Int) := of_decide_eq_true (by first | (with_reducible assumption) | assumption)
                     have q271 : x6_3 < (t264.length : Int) := of_decide_eq_true (by first | (with_reducible assumption) | assumption)
                     obtain ⟨ad271, e271, hx271_0, hx271_1, hx271_2, hx271_3⟩ := at_T35 (rR HO_5.out).2.2 x6_3 p271 q271
                     obtain rfl : ad269 = ad271 := (by injection e271)
                     replace p271 := eq_true p271
                     replace q271 := eq_true q271
                     have p272 : 0 ≤ (x7_5 : Int) := of_decide_eq_true (by first | (with_reducible assumption) | assumption)
                     have q272 : x7_5 < (t264.length : Int) := of_decide_eq_true (by first | (with_reducible assumption) | assumption)
                     obtain ⟨ad272, e272, hx272_0, hx272_1, hx272_2, hx272_3⟩ := at_T35 (rR HO_5.out).2.2 x7_5 p272 q272
                     obtain rfl : ad269 = ad272 := (by injection e272)
                     replace p272 := eq_true p272
                     replace q272 := eq_true q272
                     refine start_ (n := 10) (S := fun w' => w'.cell? (ad269.add ((x6_3).toNat * 4)) = some (.int .i64 ((rd_T35 t264 x6_3).f0.f0)) ∧ w'.cell? ⟨(ad269.add ((x6_3).toNat * 4)).block, (ad269.add ((x6_3).toNat * 4)).off + 1, none⟩ = some (.int .i64 ((rd_T35 t264 x6_3).f0.f1)) ∧ w'.cell? ⟨(ad269.add ((x6_3).toNat * 4)).block, (ad269.add ((x6_3).toNat * 4)).off + 2, none⟩ = some (.int .i64 ((rd_T35 t264 x6_3).f1.f0)) ∧ w'.cell? ⟨(ad269.add ((x6_3).toNat * 4)).block, (ad269.add ((x6_3).toNat * 4)).off + 3, none⟩ = some (.int .i64 ((rd_T35 t264 x6_3).f1.f1)) ∧ w'.cell? (ad269.add ((x7_5).toNat * 4)) = some (.int .i64 ((rd_T35 t264 x7_5).f0.f0)) ∧ w'.cell? ⟨(ad269.add ((x7_5).toNat * 4)).block, (ad269.add ((x7_5).toNat * 4)).off + 1, none⟩ = some (.int .i64 ((rd_T35 t264 x7_5).f0.f1)) ∧ w'.cell? ⟨(ad269.add ((x7_5).toNat * 4)).block, (ad269.add ((x7_5).toNat * 4)).off + 2, none⟩ = some (.int .i64 ((rd_T35 t264 x7_5).f1.f0)) ∧ w'.cell? ⟨(ad269.add ((x7_5).toNat * 4)).block, (ad269.add ((x7_5).toNat * 4)).off + 3, none⟩ = some (.int .i64 ((rd_T35 t264 x7_5).f1.f1))) (ds := []) #[false, false, false, false, false, false, false, false, false, false] (by kernel_rfl) rfl rfl ⟨hx271_0, hx271_1, hx271_2, hx271_3, hx272_0, hx272_1, hx272_2, hx272_3⟩ (fun hHeld => ?_); refine with_tabW mapmakerlaw20_NodingClean.tab18 mapmakerlaw20_NodingClean.bits18 (fun HT_ HW_ => ?_)
                     generalize w54.drew = w56 at HO_5 HB hx271_0 hx271_1 hx271_2 hx271_3 hx272_0 hx272_1 hx272_2 hx272_3 hHeld ⊢
                     refine pure_ (i := 0) (N := some 115) (v := ?_) (a' := ?_) (ba 10 1) rfl rfl (any_of HT_.out (by kernel_rfl)) (fun _ _ _ h => h) (Or.inl ⟨by rfl, ?_⟩) ?_ ?_
                     rotate_left
                     ·intro w'
                      go_simp
                      with_reducible rfl
                     rotate_left
                     ·simp only [Act.put, sA, sB, sC, i64_w, i32_w]
                      rfl
                     refine pure_ (i := 1) (N := some 116) (v := ?_) (a' := ?_) (ba 10 3) rfl rfl (any_of HT_.out (by kernel_rfl)) (fun _ _ _ h => h) (Or.inl ⟨by rfl, ?_⟩) ?_ ?_
                     rotate_left
                     ·intro w'
                      go_simp
                      with_reducible rfl
                     rotate_left
                     ·simp only [Act.put, sA, sB, sC, i64_w, i32_w]
                      rfl
                     refine pure_ (i := 2) (N := some 117) (v := ?_) (a' := ?_) (ba 10 7) rfl rfl (any_of HT_.out (by kernel_rfl)) (fun _ _ _ h => h) (Or.inl ⟨by rfl, ?_⟩) ?_ ?_
                     rotate_left
                     ·intro w'
                      go_simp
                      with_reducible rfl
                     rotate_left
                     ·simp only [Act.put, sA, sB, sC, i64_w, i32_w]
                      rfl
                     refine pure_ (i := 4) (N := some 119) (v := ?_) (a' := ?_) (ba 10 23) rfl rfl (any_of HT_.out (by kernel_rfl)) (fun _ _ _ h => h) (Or.inl ⟨by rfl, ?_⟩) ?_ ?_
                     rotate_left
                     ·intro w'
                      go_simp
                      with_reducible rfl
                     rotate_left
                     ·simp only [Act.put, sA, sB, sC, i64_w, i32_w]
                      rfl
                     refine pure_ (i := 5) (N := some 120) (v := ?_) (a' := ?_) (ba 10 55) rfl rfl (any_of HT_.out (by kernel_rfl)) (fun _ _ _ h => h) (Or.inl ⟨by rfl, ?_⟩) ?_ ?_
                     rotate_left
                     ·intro w'
                      go_simp
                      with_reducible rfl
                     rotate_left
                     ·simp only [Act.put, sA, sB, sC, i64_w, i32_w]
                      rfl
                     refine pure_ (i := 6) (N := some 121) (v := ?_) (a' := ?_) (ba 10 119) rfl rfl (any_of HT_.out (by kernel_rfl)) (fun _ _ _ h => h) (Or.inl ⟨by rfl, ?_⟩) ?_ ?_
                     rotate_left
                     ·intro w'
                      go_simp
                      with_reducible rfl
                     rotate_left
                     ·simp only [Act.put, sA, sB, sC, i64_w, i32_w]
                      rfl
                     refine take_ (i := 3) (N := some 118) (v := ?_) (a' := ?_) (ba 10 127) rfl rfl (take_ofW HT_.out HW_.out (by kernel_rfl)) (fun _ _ _ h => h) (Or.inl ⟨by rfl, ?_⟩) hHeld ?_ ?_
                     rotate_left
                     ·rintro w' ⟨s0, s1, s2, s3, s4, s5, s6, s7⟩
                      go_simp
                      with_reducible rfl
                     rotate_left
                     ·simp only [Act.put, sA, sB, sC, i64_w, i32_w]
                      rfl
                     refine take_ (i := 7) (N := some 122) (v := ?_) (a' := ?_) (ba 10 255) rfl rfl (take_ofW HT_.out HW_.out (by kernel_rfl)) (fun _ _ _ h => h) (Or.inl ⟨by rfl, ?_⟩) hHeld ?_ ?_
                     rotate_left
                     ·rintro w' ⟨s0, s1, s2, s3, s4, s5, s6, s7⟩
                      go_simp
                      with_reducible rfl
                     rotate_left
                     ·simp only [Act.put, sA, sB, sC, i64_w, i32_w]
                      rfl
                     refine one_ (i := 8) (N := some 123) (ba 10 511) rfl rfl (one_of HT_.out (by kernel_rfl)) (by decide) (fun K hK => ?_)
                     refine goes_ Try.func27 (by kernel_rfl) rfl #[.agg #[.int .i64 ((rd_T35 t264 x6_3).f0.f0), .int .i64 ((rd_T35 t264 x6_3).f0.f1), .int .i64 ((rd_T35 t264 x6_3).f1.f0), .int .i64 ((rd_T35 t264 x6_3).f1.f1)], .agg #[.int .i64 ((rd_T35 t264 x7_5).f0.f0), .int .i64 ((rd_T35 t264 x7_5).f0.f1), .int .i64 ((rd_T35 t264 x7_5).f1.f0), .int .i64 ((rd_T35 t264 x7_5).f1.f1)]] (by rfl) rfl rfl (by (try simp only [List.map_toArray, List.map_cons, List.map_nil]); first | done | rfl | (simp only [List.length_drop, List.length_take]; rfl)) ?_
                     with_reducible refine (mapmakerref09_Relate.calls k5 ((rd_T35 t264 x6_3).f0.f0) ((rd_T35 t264 x6_3).f0.f1) ((rd_T35 t264 x6_3).f1.f0) ((rd_T35 t264 x6_3).f1.f1) ((rd_T35 t264 x7_5).f0.f0) ((rd_T35 t264 x7_5).f0.f1) ((rd_T35 t264 x7_5).f1.f0) ((rd_T35 t264 x7_5).f1.f1) t273 _ A43.out).mono ?_
                     rintro e w57 ⟨rfl, hb⟩
                     obtain ⟨q0, q1, q2, q3, q4, q5, q6, q7⟩ := hHeld
                     have HS_ := And.intro (hs hb q0) <| And.intro (hs hb q1) <| And.intro (hs hb q2) <| And.intro (hs hb q3) <| And.intro (hs hb q4) <| And.intro (hs hb q5) <| And.intro (hs hb q6) <| hs hb q7
                     refine ⟨_, rfl, ?_⟩
                     replace HO_5 := aM (rB (rl HO_5) hb)
                     replace HB := aM (bS (bl) hb)
                     (try clear hb)
                     (try clear hb2)
                     (try clear hk)
                     (try clear hi)
                     refine hK.out _ _ HS_ (fun hHeld => ?_)
                     clear hK K
                     refine norm_ (a' := ?_) ?_ ?_
                     rotate_left
                     ·show Act.put _ (some 123) _ = _
                      simp only [Act.put, sA, sB, sC, i64_w, i32_w]
                      rfl
                     refine pure_ (i := 9) (N := some 9) (v := ?_) (a' := ?_) (ba 10 1023) rfl rfl (any_of HT_.out (by kernel_rfl)) (fun _ _ _ h => h) (Or.inl ⟨by rfl, ?_⟩) ?_ ?_
                     rotate_left
                     ·intro w'
                      go_simp
                      with_reducible rfl
                     rotate_left
                     ·simp only [Act.put, sA, sB, sC, i64_w, i32_w]
                      rfl
                     refine done_ (done_of HT_.out (by kernel_rfl)) ?_
                     have H := HZ.out
                     clear HZ
                     by_cases q1 : t273 > 1
                     ·rw [if_pos q1] at H
                      have q1b0 : decide (1 < t273) = true := decide_eq_true q1
                      clear q1
                      obtain rfl := Option.some.inj H
                      try go_wp2
                      go_ret
                      exact ⟨by first | rfl | (simp [errW_none, errW_some] <;> rfl) | (simp [*, errW_none, errW_some] <;> rfl), bl⟩
                     ·rw [if_neg q1] at H
                      have q1b0 : decide (1 < t273) = false := decide_eq_false q1
                      clear q1
                      by_cases q2 : t273 = 1
                      ·rw [if_pos q2] at H
                       have q2b0 : (t273 == 1) = true := beq_iff_eq.mpr q2
                       have q2b1 : (t273 != 1) = false := bne_eq_false_iff_eq.mpr q2
                       clear q2
                       have H' := aM H
                       clear H
                       try go_wp2
                       go_roundg k5
                       case measure => have := HK1.out; have := HJ9.out; have := HK3.out; have := HJ29.out; have := HK5.out; omega
                       case rel => exact ⟨(wrap64 (x7_5 + 1)), (by first | rfl | (simp; done) | (simp [*]; done)), H', ⟨by have := HK1.out; have := HJ9.out; have := HK3.out; have := HJ29.out; have := HK5.out; omega⟩, ⟨by (with_reducible repeat (first | apply rA | apply rN | apply rD)); exact HO_5.out⟩, ⟨bl⟩⟩
                      ·rw [if_neg q2] at H
                       have q2b0 : (t273 == 1) = false := beq_eq_false_iff_ne.mpr q2
                       have q2b1 : (t273 != 1) = true := bne_iff_ne.mpr q2
                       have H' := aM H
                       clear H
                       try go_wp2
                       go_roundg k5
                       case measure => have := HK1.out; have := HJ9.out; have := HK3.out; have := HJ29.out; have := HK5.out; omega
                       case rel => exact ⟨(wrap64 (x7_5 + 1)), (by first | rfl | (simp; done) | (simp [*]; done)), H', ⟨by have := HK1.out; have := HJ9.out; have := HK3.out; have := HJ29.out; have := HK5.out; omega⟩, ⟨by (with_reducible repeat (first | apply rA | apply rN | apply rD)); exact HO_5.out⟩, ⟨bl⟩⟩
                    ·rw [if_neg c42] at H
                     have c42b0 : (((rd_T35 t264 x6_3).f0.f0) == ((rd_T35 t264 x7_5).f0.f0) && (((rd_T35 t264 x6_3).f0.f1) == ((rd_T35 t264 x7_5).f0.f1))) = false := by simpa using c42
                     (try (have c42b1 : decide (((rd_T35 t264 x6_3).f0.f0) = ((rd_T35 t264 x7_5).f0.f0) && (((rd_T35 t264 x6_3).f0.f1) == ((rd_T35 t264 x7_5).f0.f1))) = false := by simpa using c42))
                     (try (have c42b2 : (((rd_T35 t264 x6_3).f0.f0) == ((rd_T35 t264 x7_5).f0.f0) && (((rd_T35 t264 x6_3).f0.f1) == ((rd_T35 t264 x7_5).f0.f1))) = false := by simpa using c42))
                     (try (have c42b3 : ¬ (((rd_T35 t264 x6_3).f0.f0) = ((rd_T35 t264 x7_5).f0.f0) && (((rd_T35 t264 x6_3).f0.f1) == ((rd_T35 t264 x7_5).f0.f1))) := by simpa using c42))
                     clear c42
                     by_cases c58 : (((rd_T35 t264 x6_3).f0.f0) == ((rd_T35 t264 x7_5).f1.f0) && (((rd_T35 t264 x6_3).f0.f1) == ((rd_T35 t264 x7_5).f1.f1))) = true
                     ·rw [if_pos c58] at H
                      have c58b0 : (((rd_T35 t264 x6_3).f0.f0) == ((rd_T35 t264 x7_5).f1.f0) && (((rd_T35 t264 x6_3).f0.f1) == ((rd_T35 t264 x7_5).f1.f1))) = true := c58
                      (try (have c58b1 : decide (((rd_T35 t264 x6_3).f0.f0) = ((rd_T35 t264 x7_5).f1.f0) && (((rd_T35 t264 x6_3).f0.f1) == ((rd_T35 t264 x7_5).f1.f1))) = true := by simpa using c58))
                      (try (have c58b2 : (((rd_T35 t264 x6_3).f0.f0) == ((rd_T35 t264 x7_5).f1.f0) && (((rd_T35 t264 x6_3).f0.f1) == ((rd_T35 t264 x7_5).f1.f1))) = true := by simpa using c58))
                      clear c58
                      replace H := Option.bind_eq_some_iff.mp H
                      obtain ⟨t278, A590, H⟩ := H
                      try dsimp only at H
                      have A59 := aM A590
                      clear A590
                      have HZ := aM H
                      clear H
                      try go_wp2
                      replace HO_5 := aM (rD HO_5.out)
                      replace HB := aM (bD HB.out)
                      obtain ⟨Ao71, co71, eo71⟩ := Kd.R_slice HO_5.out
                      (first | subst eo71 | (injection eo71 with f1_ f2_ f3_; have f4_ := f1_.symm; have f5_ := f3_.symm; clear f1_ f2_ f3_; subst f4_; subst f5_))
                      have p269 : 0 ≤ (x6_3 : Int) := of_decide_eq_true (by first | (with_reducible assumption) | assumption)
                      have q269 : x6_3 < (t264.length : Int) := of_decide_eq_true (by first | (with_reducible assumption) | assumption)
                      obtain ⟨ad269, e269, hx269_0, hx269_1, hx269_2, hx269_3⟩ := at_T35 (rR HO_5.out).2.2 x6_3 p269 q269
                      cases e269
                      replace p269 := eq_true p269
                      replace q269 := eq_true q269
                      have p270 : 0 ≤ (x7_5 : Int) := of_decide_eq_true (by first | (with_reducible assumption) | assumption)
                      have q270 : x7_5 < (t264.length : Int) := of_decide_eq_true (by first | (with_reducible assumption) | assumption)
                      obtain ⟨ad270, e270, hx270_0, hx270_1, hx270_2, hx270_3⟩ := at_T35 (rR HO_5.out).2.2 x7_5 p270 q270
                      obtain rfl : ad269 = ad270 := (by injection e270)
                      replace p270 := eq_true p270
                      replace q270 := eq_true q270
                      have p274 : 0 ≤ (x6_3 : Int) := of_decide_eq_true (by first | (with_reducible assumption) | assumption)
                      have q274 : x6_3 < (t264.length : Int) := of_decide_eq_true (by first | (with_reducible assumption) | assumption)
                      obtain ⟨ad274, e274, hx274_0, hx274_1, hx274_2, hx274_3⟩ := at_T35 (rR HO_5.out).2.2 x6_3 p274 q274
                      obtain rfl : ad269 = ad274 := (by injection e274)
                      replace p274 := eq_true p274
                      replace q274 := eq_true q274
                      have p275 : 0 ≤ (x7_5 : Int) := of_decide_eq_true (by first | (with_reducible assumption) | assumption)
                      have q275 : x7_5 < (t264.length : Int) := of_decide_eq_true (by first | (with_reducible assumption) | assumption)
                      obtain ⟨ad275, e275, hx275_0, hx275_1, hx275_2, hx275_3⟩ := at_T35 (rR HO_5.out).2.2 x7_5 p275 q275
                      obtain rfl : ad269 = ad275 := (by injection e275)
                      replace p275 := eq_true p275
                      replace q275 := eq_true q275
                      refine start_ (n := 51) (S := fun w' => w'.cell? (ad269.add ((x6_3).toNat * 4)) = some (.int .i64 ((rd_T35 t264 x6_3).f0.f0)) ∧ w'.cell? ⟨(ad269.add ((x6_3).toNat * 4)).block, (ad269.add ((x6_3).toNat * 4)).off + 1, none⟩ = some (.int .i64 ((rd_T35 t264 x6_3).f0.f1)) ∧ w'.cell? ⟨(ad269.add ((x6_3).toNat * 4)).block, (ad269.add ((x6_3).toNat * 4)).off + 2, none⟩ = some (.int .i64 ((rd_T35 t264 x6_3).f1.f0)) ∧ w'.cell? ⟨(ad269.add ((x6_3).toNat * 4)).block, (ad269.add ((x6_3).toNat * 4)).off + 3, none⟩ = some (.int .i64 ((rd_T35 t264 x6_3).f1.f1)) ∧ w'.cell? (ad269.add ((x7_5).toNat * 4)) = some (.int .i64 ((rd_T35 t264 x7_5).f0.f0)) ∧ w'.cell? ⟨(ad269.add ((x7_5).toNat * 4)).block, (ad269.add ((x7_5).toNat * 4)).off + 1, none⟩ = some (.int .i64 ((rd_T35 t264 x7_5).f0.f1)) ∧ w'.cell? ⟨(ad269.add ((x7_5).toNat * 4)).block, (ad269.add ((x7_5).toNat * 4)).off + 2, none⟩ = some (.int .i64 ((rd_T35 t264 x7_5).f1.f0)) ∧ w'.cell? ⟨(ad269.add ((x7_5).toNat * 4)).block, (ad269.add ((x7_5).toNat * 4)).off + 3, none⟩ = some (.int .i64 ((rd_T35 t264 x7_5).f1.f1)) ∧ w'.cell? (ad269.add ((x6_3).toNat * 4)) = some (.int .i64 ((rd_T35 t264 x6_3).f0.f0)) ∧ w'.cell? ⟨(ad269.add ((x6_3).toNat * 4)).block, (ad269.add ((x6_3).toNat * 4)).off + 1, none⟩ = some (.int .i64 ((rd_T35 t264 x6_3).f0.f1)) ∧ w'.cell? ⟨(ad269.add ((x6_3).toNat * 4)).block, (ad269.add ((x6_3).toNat * 4)).off + 2, none⟩ = some (.int .i64 ((rd_T35 t264 x6_3).f1.f0)) ∧ w'.cell? ⟨(ad269.add ((x6_3).toNat * 4)).block, (ad269.add ((x6_3).toNat * 4)).off + 3, none⟩ = some (.int .i64 ((rd_T35 t264 x6_3).f1.f1)) ∧ w'.cell? (ad269.add ((x7_5).toNat * 4)) = some (.int .i64 ((rd_T35 t264 x7_5).f0.f0)) ∧ w'.cell? ⟨(ad269.add ((x7_5).toNat * 4)).block, (ad269.add ((x7_5).toNat * 4)).off + 1, none⟩ = some (.int .i64 ((rd_T35 t264 x7_5).f0.f1)) ∧ w'.cell? ⟨(ad269.add ((x7_5).toNat * 4)).block, (ad269.add ((x7_5).toNat * 4)).off + 2, none⟩ = some (.int .i64 ((rd_T35 t264 x7_5).f1.f0)) ∧ w'.cell? ⟨(ad269.add ((x7_5).toNat * 4)).block, (ad269.add ((x7_5).toNat * 4)).off + 3, none⟩ = some (.int .i64 ((rd_T35 t264 x7_5).f1.f1))) (ds := []) #[false, false, false, false, false, false, false, false, false, false, false, false, false, false, false, false, false, false, false, false, false, false, false, false, false, false, false, false, false, false, false, false, false, false, false, false, false, false, false, false, false, false, false, false, false, false, false, false, false, false, false] (by kernel_rfl) rfl rfl ⟨hx269_0, hx269_1, hx269_2, hx269_3, hx270_0, hx270_1, hx270_2, hx270_3, hx274_0, hx274_1, hx274_2, hx274_3, hx275_0, hx275_1, hx275_2, hx275_3⟩ (fun hHeld => ?_); refine with_tabW mapmakerlaw20_NodingClean.tab17 mapmakerlaw20_NodingClean.bits17 (fun HT_ HW_ => ?_)
                      generalize wr.drew = w70 at HO_5 HB hx269_0 hx269_1 hx269_2 hx269_3 hx270_0 hx270_1 hx270_2 hx270_3 hx274_0 hx274_1 hx274_2 hx274_3 hx275_0 hx275_1 hx275_2 hx275_3 hHeld ⊢
                      refine pure_ (i := 0) (N := some 65) (v := ?_) (a' := ?_) (ba 51 1) rfl rfl (any_of HT_.out (by kernel_rfl)) (fun _ _ _ h => h) (Or.inl ⟨by rfl, ?_⟩) ?_ ?_
                      rotate_left
                      ·intro w'
                       go_simp
                       with_reducible rfl
                      rotate_left
                      ·simp only [Act.put, sA, sB, sC, i64_w, i32_w]
                       rfl
                      refine pure_ (i := 1) (N := some 66) (v := ?_) (a' := ?_) (ba 51 3) rfl rfl (any_of HT_.out (by kernel_rfl)) (fun _ _ _ h => h) (Or.inl ⟨by rfl, ?_⟩) ?_ ?_
                      rotate_left
                      ·intro w'
                       go_simp
                       with_reducible rfl
                      rotate_left
                      ·simp only [Act.put, sA, sB, sC, i64_w, i32_w]
                       rfl
                      refine pure_ (i := 2) (N := some 67) (v := ?_) (a' := ?_) (ba 51 7) rfl rfl (any_of HT_.out (by kernel_rfl)) (fun _ _ _ h => h) (Or.inl ⟨by rfl, ?_⟩) ?_ ?_
                      rotate_left
                      ·intro w'
                       go_simp
                       with_reducible rfl
                      rotate_left
                      ·simp only [Act.put, sA, sB, sC, i64_w, i32_w]
                       rfl
                      refine pure_ (i := 3) (N := some 68) (v := ?_) (a' := ?_) (ba 51 15) rfl rfl (any_of HT_.out (by kernel_rfl)) (fun _ _ _ h => h) (Or.inl ⟨by rfl, ?_⟩) ?_ ?_
                      rotate_left
                      ·intro w'
                       go_simp
                       with_reducible rfl
                      rotate_left
                      ·simp only [Act.put, sA, sB, sC, i64_w, i32_w]
                       rfl
                      refine pure_ (i := 5) (N := some 70) (v := ?_) (a' := ?_) (ba 51 47) rfl rfl (any_of HT_.out (by kernel_rfl)) (fun _ _ _ h => h) (Or.inl ⟨by rfl, ?_⟩) ?_ ?_
                      rotate_left
                      ·intro w'
                       go_simp
                       with_reducible rfl
                      rotate_left
                      ·simp only [Act.put, sA, sB, sC, i64_w, i32_w]
                       rfl
                      refine pure_ (i := 6) (N := some 71) (v := ?_) (a' := ?_) (ba 51 111) rfl rfl (any_of HT_.out (by kernel_rfl)) (fun _ _ _ h => h) (Or.inl ⟨by rfl, ?_⟩) ?_ ?_
                      rotate_left
                      ·intro w'
                       go_simp
                       with_reducible rfl
                      rotate_left
                      ·simp only [Act.put, sA, sB, sC, i64_w, i32_w]
                       rfl
                      refine pure_ (i := 7) (N := some 72) (v := ?_) (a' := ?_) (ba 51 239) rfl rfl (any_of HT_.out (by kernel_rfl)) (fun _ _ _ h => h) (Or.inl ⟨by rfl, ?_⟩) ?_ ?_
                      rotate_left
                      ·intro w'
                       go_simp
                       with_reducible rfl
                      rotate_left
                      ·simp only [Act.put, sA, sB, sC, i64_w, i32_w]
                       rfl
                      refine pure_ (i := 8) (N := some 73) (v := ?_) (a' := ?_) (ba 51 495) rfl rfl (any_of HT_.out (by kernel_rfl)) (fun _ _ _ h => h) (Or.inl ⟨by rfl, ?_⟩) ?_ ?_
                      rotate_left
                      ·intro w'
                       go_simp
                       with_reducible rfl
                      rotate_left
                      ·simp only [Act.put, sA, sB, sC, i64_w, i32_w]
                       rfl
                      refine take_ (i := 4) (N := some 69) (v := ?_) (a' := ?_) (ba 51 511) rfl rfl (take_ofW HT_.out HW_.out (by kernel_rfl)) (fun _ _ _ h => h) (Or.inl ⟨by rfl, ?_⟩) hHeld ?_ ?_
                      rotate_left
                      ·rintro w' ⟨s0, s1, s2, s3, s4, s5, s6, s7, s8, s9, s10, s11, s12, s13, s14, s15⟩
                       go_simp
                       with_reducible rfl
                      rotate_left
                      ·simp only [Act.put, sA, sB, sC, i64_w, i32_w]
                       rfl
                      refine take_ (i := 9) (N := some 74) (v := ?_) (a' := ?_) (ba 51 1023) rfl rfl (take_ofW HT_.out HW_.out (by kernel_rfl)) (fun _ _ _ h => h) (Or.inl ⟨by rfl, ?_⟩) hHeld ?_ ?_
                      rotate_left
                      ·rintro w' ⟨s0, s1, s2, s3, s4, s5, s6, s7, s8, s9, s10, s11, s12, s13, s14, s15⟩
                       go_simp
                       with_reducible rfl
                      rotate_left
                      ·simp only [Act.put, sA, sB, sC, i64_w, i32_w]
                       rfl
                      refine pure_ (i := 10) (N := some 75) (v := ?_) (a' := ?_) (ba 51 2047) rfl rfl (any_of HT_.out (by kernel_rfl)) (fun _ _ _ h => h) (Or.inl ⟨by rfl, ?_⟩) ?_ ?_
                      rotate_left
                      ·intro w'
                       go_simp
                       with_reducible rfl
                      rotate_left
                      ·simp only [Act.put, sA, sB, sC, i64_w, i32_w]
                       rfl
                      refine pure_ (i := 11) (N := some 76) (v := ?_) (a' := ?_) (ba 51 4095) rfl rfl (any_of HT_.out (by kernel_rfl)) (fun _ _ _ h => h) (Or.inl ⟨by rfl, ?_⟩) ?_ ?_
                      rotate_left
                      ·intro w'
                       go_simp
                       with_reducible rfl
                      rotate_left
                      ·simp only [Act.put, sA, sB, sC, i64_w, i32_w]
                       rfl
                      refine pure_ (i := 12) (N := some 77) (v := ?_) (a' := ?_) (ba 51 8191) rfl rfl (any_of HT_.out (by kernel_rfl)) (fun _ _ _ h => h) (Or.inl ⟨by rfl, ?_⟩) ?_ ?_
                      rotate_left
                      ·intro w'
                       go_simp
                       with_reducible rfl
                      rotate_left
                      ·simp only [Act.put, sA, sB, sC, i64_w, i32_w]
                       rfl
                      refine pure_ (i := 13) (N := some 78) (v := ?_) (a' := ?_) (ba 51 16383) rfl rfl (any_of HT_.out (by kernel_rfl)) (fun _ _ _ h => h) (Or.inl ⟨by rfl, ?_⟩) ?_ ?_
                      rotate_left
                      ·intro w'
                       go_simp
                       with_reducible rfl
                      rotate_left
                      ·simp only [Act.put, sA, sB, sC, i64_w, i32_w]
                       rfl
                      refine pure_ (i := 14) (N := some 79) (v := ?_) (a' := ?_) (ba 51 32767) rfl rfl (any_of HT_.out (by kernel_rfl)) (fun _ _ _ h => h) (Or.inl ⟨by rfl, ?_⟩) ?_ ?_
                      rotate_left
                      ·intro w'
                       go_simp
                       with_reducible rfl
                      rotate_left
                      ·simp only [Act.put, sA, sB, sC, i64_w, i32_w]
                       rfl
                      refine pure_ (i := 15) (N := some 80) (v := ?_) (a' := ?_) (ba 51 65535) rfl rfl (any_of HT_.out (by kernel_rfl)) (fun _ _ _ h => h) (Or.inl ⟨by rfl, ?_⟩) ?_ ?_
                      rotate_left
                      ·intro w'
                       go_simp
                       with_reducible rfl
                      rotate_left
                      ·simp only [Act.put, sA, sB, sC, i64_w, i32_w]
                       rfl
                      refine pure_ (i := 17) (N := some 82) (v := ?_) (a' := ?_) (ba 51 196607) rfl rfl (any_of HT_.out (by kernel_rfl)) (fun _ _ _ h => h) (Or.inl ⟨by rfl, ?_⟩) ?_ ?_
                      rotate_left
                      ·intro w'
                       go_simp
                       with_reducible rfl
                      rotate_left
                      ·simp only [Act.put, sA, sB, sC, i64_w, i32_w]
                       rfl
                      refine pure_ (i := 18) (N := some 83) (v := ?_) (a' := ?_) (ba 51 458751) rfl rfl (any_of HT_.out (by kernel_rfl)) (fun _ _ _ h => h) (Or.inl ⟨by rfl, ?_⟩) ?_ ?_
                      rotate_left
                      ·intro w'
                       go_simp
                       with_reducible rfl
                      rotate_left
                      ·simp only [Act.put, sA, sB, sC, i64_w, i32_w]
                       rfl
                      refine pure_ (i := 19) (N := some 84) (v := ?_) (a' := ?_) (ba 51 983039) rfl rfl (any_of HT_.out (by kernel_rfl)) (fun _ _ _ h => h) (Or.inl ⟨by rfl, ?_⟩) ?_ ?_
                      rotate_left
                      ·intro w'
                       go_simp
                       with_reducible rfl
                      rotate_left
                      ·simp only [Act.put, sA, sB, sC, i64_w, i32_w]
                       rfl
                      refine pure_ (i := 20) (N := some 85) (v := ?_) (a' := ?_) (ba 51 2031615) rfl rfl (any_of HT_.out (by kernel_rfl)) (fun _ _ _ h => h) (Or.inl ⟨by rfl, ?_⟩) ?_ ?_
                      rotate_left
                      ·intro w'
                       go_simp
                       with_reducible rfl
                      rotate_left
                      ·simp only [Act.put, sA, sB, sC, i64_w, i32_w]
                       rfl
                      refine take_ (i := 16) (N := some 81) (v := ?_) (a' := ?_) (ba 51 2097151) rfl rfl (take_ofW HT_.out HW_.out (by kernel_rfl)) (fun _ _ _ h => h) (Or.inl ⟨by rfl, ?_⟩) hHeld ?_ ?_
                      rotate_left
                      ·rintro w' ⟨s0, s1, s2, s3, s4, s5, s6, s7, s8, s9, s10, s11, s12, s13, s14, s15⟩
                       go_simp
                       with_reducible rfl
                      rotate_left
                      ·simp only [Act.put, sA, sB, sC, i64_w, i32_w]
                       rfl
                      refine take_ (i := 21) (N := some 86) (v := ?_) (a' := ?_) (ba 51 4194303) rfl rfl (take_ofW HT_.out HW_.out (by kernel_rfl)) (fun _ _ _ h => h) (Or.inl ⟨by rfl, ?_⟩) hHeld ?_ ?_
                      rotate_left
                      ·rintro w' ⟨s0, s1, s2, s3, s4, s5, s6, s7, s8, s9, s10, s11, s12, s13, s14, s15⟩
                       go_simp
                       with_reducible rfl
                      rotate_left
                      ·simp only [Act.put, sA, sB, sC, i64_w, i32_w]
                       rfl
                      refine pure_ (i := 22) (N := some 87) (v := ?_) (a' := ?_) (ba 51 8388607) rfl rfl (any_of HT_.out (by kernel_rfl)) (fun _ _ _ h => h) (Or.inl ⟨by rfl, ?_⟩) ?_ ?_
                      rotate_left
                      ·intro w'
                       go_simp
                       with_reducible rfl
                      rotate_left
                      ·simp only [Act.put, sA, sB, sC, i64_w, i32_w]
                       rfl
                      refine pure_ (i := 23) (N := some 88) (v := ?_) (a' := ?_) (ba 51 16777215) rfl rfl (any_of HT_.out (by kernel_rfl)) (fun _ _ _ h => h) (Or.inl ⟨by rfl, ?_⟩) ?_ ?_
                      rotate_left
                      ·intro w'
                       go_simp
                       with_reducible rfl
                      rotate_left
                      ·simp only [Act.put, sA, sB, sC, i64_w, i32_w]
                       rfl
                      refine pure_ (i := 24) (N := some 89) (v := ?_) (a' := ?_) (ba 51 33554431) rfl rfl (any_of HT_.out (by kernel_rfl)) (fun _ _ _ h => h) (Or.inl ⟨by rfl, ?_⟩) ?_ ?_
                      rotate_left
                      ·intro w'
                       go_simp
                       with_reducible rfl
                      rotate_left
                      ·simp only [Act.put, sA, sB, sC, i64_w, i32_w]
                       rfl
                      refine pure_ (i := 25) (N := some 90) (v := undef) (a' := ?_) (ba 51 67108863) rfl rfl (any_of HT_.out (by kernel_rfl)) (fun _ _ _ h => h) (Or.inr ⟨by rfl, rfl⟩) ?_ ?_
                      rotate_left
                      ·simp only [Act.put, sA, sB, sC, i64_w, i32_w]
                       rfl
                      refine pure_ (i := 26) (N := some 91) (v := undef) (a' := ?_) (ba 51 134217727) rfl rfl (any_of HT_.out (by kernel_rfl)) (fun _ _ _ h => h) (Or.inr ⟨by rfl, rfl⟩) ?_ ?_
                      rotate_left
                      ·simp only [Act.put, sA, sB, sC, i64_w, i32_w]
                       rfl
                      refine pure_ (i := 27) (N := some 92) (v := undef) (a' := ?_) (ba 51 268435455) rfl rfl (any_of HT_.out (by kernel_rfl)) (fun _ _ _ h => h) (Or.inr ⟨by rfl, rfl⟩) ?_ ?_
                      rotate_left
                      ·simp only [Act.put, sA, sB, sC, i64_w, i32_w]
                       rfl
                      refine pure_ (i := 28) (N := some 93) (v := undef) (a' := ?_) (ba 51 536870911) rfl rfl (any_of HT_.out (by kernel_rfl)) (fun _ _ _ h => h) (Or.inr ⟨by rfl, rfl⟩) ?_ ?_
                      rotate_left
                      ·simp only [Act.put, sA, sB, sC, i64_w, i32_w]
                       rfl
                      refine pure_ (i := 29) (N := some 94) (v := undef) (a' := ?_) (ba 51 1073741823) rfl rfl (any_of HT_.out (by kernel_rfl)) (fun _ _ _ h => h) (Or.inr ⟨by rfl, rfl⟩) ?_ ?_
                      rotate_left
                      ·simp only [Act.put, sA, sB, sC, i64_w, i32_w]
                       rfl
                      refine pure_ (i := 30) (N := some 95) (v := undef) (a' := ?_) (ba 51 2147483647) rfl rfl (any_of HT_.out (by kernel_rfl)) (fun _ _ _ h => h) (Or.inr ⟨by rfl, rfl⟩) ?_ ?_
                      rotate_left
                      ·simp only [Act.put, sA, sB, sC, i64_w, i32_w]
                       rfl
                      refine pure_ (i := 31) (N := some 96) (v := undef) (a' := ?_) (ba 51 4294967295) rfl rfl (any_of HT_.out (by kernel_rfl)) (fun _ _ _ h => h) (Or.inr ⟨by rfl, rfl⟩) ?_ ?_
                      rotate_left
                      ·simp only [Act.put, sA, sB, sC, i64_w, i32_w]
                       rfl
                      refine pure_ (i := 32) (N := some 97) (v := undef) (a' := ?_) (ba 51 8589934591) rfl rfl (any_of HT_.out (by kernel_rfl)) (fun _ _ _ h => h) (Or.inr ⟨by rfl, rfl⟩) ?_ ?_
                      rotate_left
                      ·simp only [Act.put, sA, sB, sC, i64_w, i32_w]
                       rfl
                      refine pure_ (i := 33) (N := some 98) (v := undef) (a' := ?_) (ba 51 17179869183) rfl rfl (any_of HT_.out (by kernel_rfl)) (fun _ _ _ h => h) (Or.inr ⟨by rfl, rfl⟩) ?_ ?_
                      rotate_left
                      ·simp only [Act.put, sA, sB, sC, i64_w, i32_w]
                       rfl
                      refine pure_ (i := 34) (N := some 99) (v := undef) (a' := ?_) (ba 51 34359738367) rfl rfl (any_of HT_.out (by kernel_rfl)) (fun _ _ _ h => h) (Or.inr ⟨by rfl, rfl⟩) ?_ ?_
                      rotate_left
                      ·simp only [Act.put, sA, sB, sC, i64_w, i32_w]
                       rfl
                      refine pure_ (i := 35) (N := some 100) (v := undef) (a' := ?_) (ba 51 68719476735) rfl rfl (any_of HT_.out (by kernel_rfl)) (fun _ _ _ h => h) (Or.inr ⟨by rfl, rfl⟩) ?_ ?_
                      rotate_left
                      ·simp only [Act.put, sA, sB, sC, i64_w, i32_w]
                       rfl
                      refine pure_ (i := 36) (N := some 101) (v := ?_) (a' := ?_) (ba 51 137438953471) rfl rfl (any_of HT_.out (by kernel_rfl)) (fun _ _ _ h => h) (Or.inl ⟨by rfl, ?_⟩) ?_ ?_
                      rotate_left
                      ·intro w'
                       go_simp
                       with_reducible rfl
                      rotate_left
                      ·simp only [Act.put, sA, sB, sC, i64_w, i32_w]
                       rfl
                      refine pure_ (i := 37) (N := some 102) (v := ?_) (a' := ?_) (ba 51 274877906943) rfl rfl (any_of HT_.out (by kernel_rfl)) (fun _ _ _ h => h) (Or.inl ⟨by rfl, ?_⟩) ?_ ?_
                      rotate_left
                      ·intro w'
                       go_simp
                       with_reducible rfl
                      rotate_left
                      ·simp only [Act.put, sA, sB, sC, i64_w, i32_w]
                       rfl
                      refine pure_ (i := 38) (N := some 103) (v := undef) (a' := ?_) (ba 51 549755813887) rfl rfl (any_of HT_.out (by kernel_rfl)) (fun _ _ _ h => h) (Or.inr ⟨by rfl, rfl⟩) ?_ ?_
                      rotate_left
                      ·simp only [Act.put, sA, sB, sC, i64_w, i32_w]
                       rfl
                      refine pure_ (i := 39) (N := some 104) (v := undef) (a' := ?_) (ba 51 1099511627775) rfl rfl (any_of HT_.out (by kernel_rfl)) (fun _ _ _ h => h) (Or.inr ⟨by rfl, rfl⟩) ?_ ?_
                      rotate_left
                      ·simp only [Act.put, sA, sB, sC, i64_w, i32_w]
                       rfl
                      refine pure_ (i := 40) (N := some 105) (v := undef) (a' := ?_) (ba 51 2199023255551) rfl rfl (any_of HT_.out (by kernel_rfl)) (fun _ _ _ h => h) (Or.inr ⟨by rfl, rfl⟩) ?_ ?_
                      rotate_left
                      ·simp only [Act.put, sA, sB, sC, i64_w, i32_w]
                       rfl
                      refine pure_ (i := 41) (N := some 106) (v := undef) (a' := ?_) (ba 51 4398046511103) rfl rfl (any_of HT_.out (by kernel_rfl)) (fun _ _ _ h => h) (Or.inr ⟨by rfl, rfl⟩) ?_ ?_
                      rotate_left
                      ·simp only [Act.put, sA, sB, sC, i64_w, i32_w]
                       rfl
                      refine pure_ (i := 42) (N := some 107) (v := undef) (a' := ?_) (ba 51 8796093022207) rfl rfl (any_of HT_.out (by kernel_rfl)) (fun _ _ _ h => h) (Or.inr ⟨by rfl, rfl⟩) ?_ ?_
                      rotate_left
                      ·simp only [Act.put, sA, sB, sC, i64_w, i32_w]
                       rfl
                      refine pure_ (i := 43) (N := some 108) (v := undef) (a' := ?_) (ba 51 17592186044415) rfl rfl (any_of HT_.out (by kernel_rfl)) (fun _ _ _ h => h) (Or.inr ⟨by rfl, rfl⟩) ?_ ?_
                      rotate_left
                      ·simp only [Act.put, sA, sB, sC, i64_w, i32_w]
                       rfl
                      refine pure_ (i := 44) (N := some 109) (v := undef) (a' := ?_) (ba 51 35184372088831) rfl rfl (any_of HT_.out (by kernel_rfl)) (fun _ _ _ h => h) (Or.inr ⟨by rfl, rfl⟩) ?_ ?_
                      rotate_left
                      ·simp only [Act.put, sA, sB, sC, i64_w, i32_w]
                       rfl
                      refine pure_ (i := 45) (N := some 110) (v := undef) (a' := ?_) (ba 51 70368744177663) rfl rfl (any_of HT_.out (by kernel_rfl)) (fun _ _ _ h => h) (Or.inr ⟨by rfl, rfl⟩) ?_ ?_
                      rotate_left
                      ·simp only [Act.put, sA, sB, sC, i64_w, i32_w]
                       rfl
                      refine pure_ (i := 46) (N := some 111) (v := undef) (a' := ?_) (ba 51 140737488355327) rfl rfl (any_of HT_.out (by kernel_rfl)) (fun _ _ _ h => h) (Or.inr ⟨by rfl, rfl⟩) ?_ ?_
                      rotate_left
                      ·simp only [Act.put, sA, sB, sC, i64_w, i32_w]
                       rfl
                      refine pure_ (i := 47) (N := some 112) (v := undef) (a' := ?_) (ba 51 281474976710655) rfl rfl (any_of HT_.out (by kernel_rfl)) (fun _ _ _ h => h) (Or.inr ⟨by rfl, rfl⟩) ?_ ?_
                      rotate_left
                      ·simp only [Act.put, sA, sB, sC, i64_w, i32_w]
                       rfl
                      refine pure_ (i := 48) (N := some 113) (v := undef) (a' := ?_) (ba 51 562949953421311) rfl rfl (any_of HT_.out (by kernel_rfl)) (fun _ _ _ h => h) (Or.inr ⟨by rfl, rfl⟩) ?_ ?_
                      rotate_left
                      ·simp only [Act.put, sA, sB, sC, i64_w, i32_w]
                       rfl
                      refine pure_ (i := 49) (N := some 114) (v := ?_) (a' := ?_) (ba 51 1125899906842623) rfl rfl (any_of HT_.out (by kernel_rfl)) (fun _ _ _ h => h) (Or.inl ⟨by rfl, ?_⟩) ?_ ?_
                      rotate_left
                      ·intro w'
                       go_simp
                       with_reducible rfl
                      rotate_left
                      ·simp only [Act.put, sA, sB, sC, i64_w, i32_w]
                       rfl
                      refine pure_ (i := 50) (N := some 8) (v := ?_) (a' := ?_) (ba 51 2251799813685247) rfl rfl (any_of HT_.out (by kernel_rfl)) (fun _ _ _ h => h) (Or.inl ⟨by rfl, ?_⟩) ?_ ?_
                      rotate_left
                      ·intro w'
                       go_simp
                       with_reducible rfl
                      rotate_left
                      ·simp only [Act.put, sA, sB, sC, i64_w, i32_w]
                       rfl
                      refine done_ (done_of HT_.out (by kernel_rfl)) ?_
                      try go_wp2
                      replace HO_5 := aM (rD HO_5.out)
                      replace HB := aM (bD HB.out)
                      have p276 : 0 ≤ (x6_3 : Int) := of_decide_eq_true (by first | (with_reducible assumption) | assumption)
                      have q276 : x6_3 < (t264.length : Int) := of_decide_eq_true (by first | (with_reducible assumption) | assumption)
                      obtain ⟨ad276, e276, hx276_0, hx276_1, hx276_2, hx276_3⟩ := at_T35 (rR HO_5.out).2.2 x6_3 p276 q276
                      obtain rfl : ad269 = ad276 := (by injection e276)
                      replace p276 := eq_true p276
                      replace q276 := eq_true q276
                      have p277 : 0 ≤ (x7_5 : Int) := of_decide_eq_true (by first | (with_reducible assumption) | assumption)
                      have q277 : x7_5 < (t264.length : Int) := of_decide_eq_true (by first | (with_reducible assumption) | assumption)
                      obtain ⟨ad277, e277, hx277_0, hx277_1, hx277_2, hx277_3⟩ := at_T35 (rR HO_5.out).2.2 x7_5 p277 q277
                      obtain rfl : ad269 = ad277 := (by injection e277)
                      replace p277 := eq_true p277
                      replace q277 := eq_true q277
                      refine start_ (n := 10) (S := fun w' => w'.cell? (ad269.add ((x6_3).toNat * 4)) = some (.int .i64 ((rd_T35 t264 x6_3).f0.f0)) ∧ w'.cell? ⟨(ad269.add ((x6_3).toNat * 4)).block, (ad269.add ((x6_3).toNat * 4)).off + 1, none⟩ = some (.int .i64 ((rd_T35 t264 x6_3).f0.f1)) ∧ w'.cell? ⟨(ad269.add ((x6_3).toNat * 4)).block, (ad269.add ((x6_3).toNat * 4)).off + 2, none⟩ = some (.int .i64 ((rd_T35 t264 x6_3).f1.f0)) ∧ w'.cell? ⟨(ad269.add ((x6_3).toNat * 4)).block, (ad269.add ((x6_3).toNat * 4)).off + 3, none⟩ = some (.int .i64 ((rd_T35 t264 x6_3).f1.f1)) ∧ w'.cell? (ad269.add ((x7_5).toNat * 4)) = some (.int .i64 ((rd_T35 t264 x7_5).f0.f0)) ∧ w'.cell? ⟨(ad269.add ((x7_5).toNat * 4)).block, (ad269.add ((x7_5).toNat * 4)).off + 1, none⟩ = some (.int .i64 ((rd_T35 t264 x7_5).f0.f1)) ∧ w'.cell? ⟨(ad269.add ((x7_5).toNat * 4)).block, (ad269.add ((x7_5).toNat * 4)).off + 2, none⟩ = some (.int .i64 ((rd_T35 t264 x7_5).f1.f0)) ∧ w'.cell? ⟨(ad269.add ((x7_5).toNat * 4)).block, (ad269.add ((x7_5).toNat * 4)).off + 3, none⟩ = some (.int .i64 ((rd_T35 t264 x7_5).f1.f1))) (ds := []) #[false, false, false, false, false, false, false, false, false, false] (by kernel_rfl) rfl rfl ⟨hx276_0, hx276_1, hx276_2, hx276_3, hx277_0, hx277_1, hx277_2, hx277_3⟩ (fun hHeld => ?_); refine with_tabW mapmakerlaw20_NodingClean.tab18 mapmakerlaw20_NodingClean.bits18 (fun HT_ HW_ => ?_)
                      generalize w70.drew = w72 at HO_5 HB hx276_0 hx276_1 hx276_2 hx276_3 hx277_0 hx277_1 hx277_2 hx277_3 hHeld ⊢
                      refine pure_ (i := 0) (N := some 115) (v := ?_) (a' := ?_) (ba 10 1) rfl rfl (any_of HT_.out (by kernel_rfl)) (fun _ _ _ h => h) (Or.inl ⟨by rfl, ?_⟩) ?_ ?_
                      rotate_left
                      ·intro w'
                       go_simp
                       with_reducible rfl
                      rotate_left
                      ·simp only [Act.put, sA, sB, sC, i64_w, i32_w]
                       rfl
                      refine pure_ (i := 1) (N := some 116) (v := ?_) (a' := ?_) (ba 10 3) rfl rfl (any_of HT_.out (by kernel_rfl)) (fun _ _ _ h => h) (Or.inl ⟨by rfl, ?_⟩) ?_ ?_
                      rotate_left
                      ·intro w'
                       go_simp
                       with_reducible rfl
                      rotate_left
                      ·simp only [Act.put, sA, sB, sC, i64_w, i32_w]
                       rfl
                      refine pure_ (i := 2) (N := some 117) (v := ?_) (a' := ?_) (ba 10 7) rfl rfl (any_of HT_.out (by kernel_rfl)) (fun _ _ _ h => h) (Or.inl ⟨by rfl, ?_⟩) ?_ ?_
                      rotate_left
                      ·intro w'
                       go_simp
                       with_reducible rfl
                      rotate_left
                      ·simp only [Act.put, sA, sB, sC, i64_w, i32_w]
                       rfl
                      refine pure_ (i := 4) (N := some 119) (v := ?_) (a' := ?_) (ba 10 23) rfl rfl (any_of HT_.out (by kernel_rfl)) (fun _ _ _ h => h) (Or.inl ⟨by rfl, ?_⟩) ?_ ?_
                      rotate_left
                      ·intro w'
                       go_simp
                       with_reducible rfl
                      rotate_left
                      ·simp only [Act.put, sA, sB, sC, i64_w, i32_w]
                       rfl
                      refine pure_ (i := 5) (N := some 120) (v := ?_) (a' := ?_) (ba 10 55) rfl rfl (any_of HT_.out (by kernel_rfl)) (fun _ _ _ h => h) (Or.inl ⟨by rfl, ?_⟩) ?_ ?_
                      rotate_left
                      ·intro w'
                       go_simp
                       with_reducible rfl
                      rotate_left
                      ·simp only [Act.put, sA, sB, sC, i64_w, i32_w]
                       rfl
                      refine pure_ (i := 6) (N := some 121) (v := ?_) (a' := ?_) (ba 10 119) rfl rfl (any_of HT_.out (by kernel_rfl)) (fun _ _ _ h => h) (Or.inl ⟨by rfl, ?_⟩) ?_ ?_
                      rotate_left
                      ·intro w'
                       go_simp
                       with_reducible rfl
                      rotate_left
                      ·simp only [Act.put, sA, sB, sC, i64_w, i32_w]
                       rfl
                      refine take_ (i := 3) (N := some 118) (v := ?_) (a' := ?_) (ba 10 127) rfl rfl (take_ofW HT_.out HW_.out (by kernel_rfl)) (fun _ _ _ h => h) (Or.inl ⟨by rfl, ?_⟩) hHeld ?_ ?_
                      rotate_left
                      ·rintro w' ⟨s0, s1, s2, s3, s4, s5, s6, s7⟩
                       go_simp
                       with_reducible rfl
                      rotate_left
                      ·simp only [Act.put, sA, sB, sC, i64_w, i32_w]
                       rfl
                      refine take_ (i := 7) (N := some 122) (v := ?_) (a' := ?_) (ba 10 255) rfl rfl (take_ofW HT_.out HW_.out (by kernel_rfl)) (fun _ _ _ h => h) (Or.inl ⟨by rfl, ?_⟩) hHeld ?_ ?_
                      rotate_left
                      ·rintro w' ⟨s0, s1, s2, s3, s4, s5, s6, s7⟩
                       go_simp
                       with_reducible rfl
                      rotate_left
                      ·simp only [Act.put, sA, sB, sC, i64_w, i32_w]
                       rfl
                      refine one_ (i := 8) (N := some 123) (ba 10 511) rfl rfl (one_of HT_.out (by kernel_rfl)) (by decide) (fun K hK => ?_)
                      refine goes_ Try.func27 (by kernel_rfl) rfl #[.agg #[.int .i64 ((rd_T35 t264 x6_3).f0.f0), .int .i64 ((rd_T35 t264 x6_3).f0.f1), .int .i64 ((rd_T35 t264 x6_3).f1.f0), .int .i64 ((rd_T35 t264 x6_3).f1.f1)], .agg #[.int .i64 ((rd_T35 t264 x7_5).f0.f0), .int .i64 ((rd_T35 t264 x7_5).f0.f1), .int .i64 ((rd_T35 t264 x7_5).f1.f0), .int .i64 ((rd_T35 t264 x7_5).f1.f1)]] (by rfl) rfl rfl (by (try simp only [List.map_toArray, List.map_cons, List.map_nil]); first | done | rfl | (simp only [List.length_drop, List.length_take]; rfl)) ?_
                      with_reducible refine (mapmakerref09_Relate.calls k5 ((rd_T35 t264 x6_3).f0.f0) ((rd_T35 t264 x6_3).f0.f1) ((rd_T35 t264 x6_3).f1.f0) ((rd_T35 t264 x6_3).f1.f1) ((rd_T35 t264 x7_5).f0.f0) ((rd_T35 t264 x7_5).f0.f1) ((rd_T35 t264 x7_5).f1.f0) ((rd_T35 t264 x7_5).f1.f1) t278 _ A59.out).mono ?_
                      rintro e w73 ⟨rfl, hb⟩
                      obtain ⟨q0, q1, q2, q3, q4, q5, q6, q7⟩ := hHeld
                      have HS_ := And.intro (hs hb q0) <| And.intro (hs hb q1) <| And.intro (hs hb q2) <| And.intro (hs hb q3) <| And.intro (hs hb q4) <| And.intro (hs hb q5) <| And.intro (hs hb q6) <| hs hb q7
                      refine ⟨_, rfl, ?_⟩
                      replace HO_5 := aM (rB (rl HO_5) hb)
                      replace HB := aM (bS (bl) hb)
                      (try clear hb)
                      (try clear hb2)
                      (try clear hk)
                      (try clear hi)
                      refine hK.out _ _ HS_ (fun hHeld => ?_)
                      clear hK K
                      refine norm_ (a' := ?_) ?_ ?_
                      rotate_left
                      ·show Act.put _ (some 123) _ = _
                       simp only [Act.put, sA, sB, sC, i64_w, i32_w]
                       rfl
                      refine pure_ (i := 9) (N := some 9) (v := ?_) (a' := ?_) (ba 10 1023) rfl rfl (any_of HT_.out (by kernel_rfl)) (fun _ _ _ h => h) (Or.inl ⟨by rfl, ?_⟩) ?_ ?_
                      rotate_left
                      ·intro w'
                       go_simp
                       with_reducible rfl
                      rotate_left
                      ·simp only [Act.put, sA, sB, sC, i64_w, i32_w]
                       rfl
                      refine done_ (done_of HT_.out (by kernel_rfl)) ?_
                      have H := HZ.out
                      clear HZ
                      by_cases q1 : t278 > 1
                      ·rw [if_pos q1] at H
                       have q1b0 : decide (1 < t278) = true := decide_eq_true q1
                       clear q1
                       obtain rfl := Option.some.inj H
                       try go_wp2
                       go_ret
                       exact ⟨by first | rfl | (simp [errW_none, errW_some] <;> rfl) | (simp [*, errW_none, errW_some] <;> rfl), bl⟩
                      ·rw [if_neg q1] at H
                       have q1b0 : decide (1 < t278) = false := decide_eq_false q1
                       clear q1
                       by_cases q2 : t278 = 1
                       ·rw [if_pos q2] at H
                        have q2b0 : (t278 == 1) = true := beq_iff_eq.mpr q2
                        have q2b1 : (t278 != 1) = false := bne_eq_false_iff_eq.mpr q2
                        clear q2
                        have H' := aM H
                        clear H
                        try go_wp2
                        go_roundg k5
                        case measure => have := HK1.out; have := HJ9.out; have := HK3.out; have := HJ29.out; have := HK5.out; omega
                        case rel => exact ⟨(wrap64 (x7_5 + 1)), (by first | rfl | (simp; done) | (simp [*]; done)), H', ⟨by have := HK1.out; have := HJ9.out; have := HK3.out; have := HJ29.out; have := HK5.out; omega⟩, ⟨by (with_reducible repeat (first | apply rA | apply rN | apply rD)); exact HO_5.out⟩, ⟨bl⟩⟩
                       ·rw [if_neg q2] at H
                        have q2b0 : (t278 == 1) = false := beq_eq_false_iff_ne.mpr q2
                        have q2b1 : (t278 != 1) = true := bne_iff_ne.mpr q2
                        have H' := aM H
                        clear H
                        try go_wp2
                        go_roundg k5
                        case measure => have := HK1.out; have := HJ9.out; have := HK3.out; have := HJ29.out; have := HK5.out; omega
                        case rel => exact ⟨(wrap64 (x7_5 + 1)), (by first | rfl | (simp; done) | (simp [*]; done)), H', ⟨by have := HK1.out; have := HJ9.out; have := HK3.out; have := HJ29.out; have := HK5.out; omega⟩, ⟨by (with_reducible repeat (first | apply rA | apply rN | apply rD)); exact HO_5.out⟩, ⟨bl⟩⟩
                     ·rw [if_neg c58] at H
                      have c58b0 : (((rd_T35 t264 x6_3).f0.f0) == ((rd_T35 t264 x7_5).f1.f0) && (((rd_T35 t264 x6_3).f0.f1) == ((rd_T35 t264 x7_5).f1.f1))) = false := by simpa using c58
                      (try (have c58b1 : decide (((rd_T35 t264 x6_3).f0.f0) = ((rd_T35 t264 x7_5).f1.f0) && (((rd_T35 t264 x6_3).f0.f1) == ((rd_T35 t264 x7_5).f1.f1))) = false := by simpa using c58))
                      (try (have c58b2 : (((rd_T35 t264 x6_3).f0.f0) == ((rd_T35 t264 x7_5).f1.f0) && (((rd_T35 t264 x6_3).f0.f1) == ((rd_T35 t264 x7_5).f1.f1))) = false := by simpa using c58))
                      (try (have c58b3 : ¬ (((rd_T35 t264 x6_3).f0.f0) = ((rd_T35 t264 x7_5).f1.f0) && (((rd_T35 t264 x6_3).f0.f1) == ((rd_T35 t264 x7_5).f1.f1))) := by simpa using c58))
                      clear c58
                      by_cases c74 : (((rd_T35 t264 x6_3).f1.f0) == ((rd_T35 t264 x7_5).f0.f0) && (((rd_T35 t264 x6_3).f1.f1) == ((rd_T35 t264 x7_5).f0.f1))) = true
                      ·rw [if_pos c74] at H
                       have c74b0 : (((rd_T35 t264 x6_3).f1.f0) == ((rd_T35 t264 x7_5).f0.f0) && (((rd_T35 t264 x6_3).f1.f1) == ((rd_T35 t264 x7_5).f0.f1))) = true := c74
                       (try (have c74b1 : decide (((rd_T35 t264 x6_3).f1.f0) = ((rd_T35 t264 x7_5).f0.f0) && (((rd_T35 t264 x6_3).f1.f1) == ((rd_T35 t264 x7_5).f0.f1))) = true := by simpa using c74))
                       (try (have c74b2 : (((rd_T35 t264 x6_3).f1.f0) == ((rd_T35 t264 x7_5).f0.f0) && (((rd_T35 t264 x6_3).f1.f1) == ((rd_T35 t264 x7_5).f0.f1))) = true := by simpa using c74))
                       clear c74
                       replace H := Option.bind_eq_some_iff.mp H
                       obtain ⟨t283, A750, H⟩ := H
                       try dsimp only at H
                       have A75 := aM A750
                       clear A750
                       have HZ := aM H
                       clear H
                       try go_wp2
                       replace HO_5 := aM (rD HO_5.out)
                       replace HB := aM (bD HB.out)
                       obtain ⟨Ao87, co87, eo87⟩ := Kd.R_slice HO_5.out
                       (first | subst eo87 | (injection eo87 with f1_ f2_ f3_; have f4_ := f1_.symm; have f5_ := f3_.symm; clear f1_ f2_ f3_; subst f4_; subst f5_))
                       have p269 : 0 ≤ (x6_3 : Int) := of_decide_eq_true (by first | (with_reducible assumption) | assumption)
                       have q269 : x6_3 < (t264.length : Int) := of_decide_eq_true (by first | (with_reducible assumption) | assumption)
                       obtain ⟨ad269, e269, hx269_0, hx269_1, hx269_2, hx269_3⟩ := at_T35 (rR HO_5.out).2.2 x6_3 p269 q269
                       cases e269
                       replace p269 := eq_true p269
                       replace q269 := eq_true q269
                       have p270 : 0 ≤ (x7_5 : Int) := of_decide_eq_true (by first | (with_reducible assumption) | assumption)
                       have q270 : x7_5 < (t264.length : Int) := of_decide_eq_true (by first | (with_reducible assumption) | assumption)
                       obtain ⟨ad270, e270, hx270_0, hx270_1, hx270_2, hx270_3⟩ := at_T35 (rR HO_5.out).2.2 x7_5 p270 q270
                       obtain rfl : ad269 = ad270 := (by injection e270)
                       replace p270 := eq_true p270
                       replace q270 := eq_true q270
                       have p274 : 0 ≤ (x6_3 : Int) := of_decide_eq_true (by first | (with_reducible assumption) | assumption)
                       have q274 : x6_3 < (t264.length : Int) := of_decide_eq_true (by first | (with_reducible assumption) | assumption)
                       obtain ⟨ad274, e274, hx274_0, hx274_1, hx274_2, hx274_3⟩ := at_T35 (rR HO_5.out).2.2 x6_3 p274 q274
                       obtain rfl : ad269 = ad274 := (by injection e274)
                       replace p274 := eq_true p274
                       replace q274 := eq_true q274
                       have p275 : 0 ≤ (x7_5 : Int) := of_decide_eq_true (by first | (with_reducible assumption) | assumption)
                       have q275 : x7_5 < (t264.length : Int) := of_decide_eq_true (by first | (with_reducible assumption) | assumption)
                       obtain ⟨ad275, e275, hx275_0, hx275_1, hx275_2, hx275_3⟩ := at_T35 (rR HO_5.out).2.2 x7_5 p275 q275
                       obtain rfl : ad269 = ad275 := (by injection e275)
                       replace p275 := eq_true p275
                       replace q275 := eq_true q275
                       have p279 : 0 ≤ (x6_3 : Int) := of_decide_eq_true (by first | (with_reducible assumption) | assumption)
                       have q279 : x6_3 < (t264.length : Int) := of_decide_eq_true (by first | (with_reducible assumption) | assumption)
                       obtain ⟨ad279, e279, hx279_0, hx279_1, hx279_2, hx279_3⟩ := at_T35 (rR HO_5.out).2.2 x6_3 p279 q279
                       obtain rfl : ad269 = ad279 := (by injection e279)
                       replace p279 := eq_true p279
                       replace q279 := eq_true q279
                       have p280 : 0 ≤ (x7_5 : Int) := of_decide_eq_true (by first | (with_reducible assumption) | assumption)
                       have q280 : x7_5 < (t264.length : Int) := of_decide_eq_true (by first | (with_reducible assumption) | assumption)
                       obtain ⟨ad280, e280, hx280_0, hx280_1, hx280_2, hx280_3⟩ := at_T35 (rR HO_5.out).2.2 x7_5 p280 q280
                       obtain rfl : ad269 = ad280 := (by injection e280)
                       replace p280 := eq_true p280
                       replace q280 := eq_true q280
                       refine start_ (n := 51) (S := fun w' => w'.cell? (ad269.add ((x6_3).toNat * 4)) = some (.int .i64 ((rd_T35 t264 x6_3).f0.f0)) ∧ w'.cell? ⟨(ad269.add ((x6_3).toNat * 4)).block, (ad269.add ((x6_3).toNat * 4)).off + 1, none⟩ = some (.int .i64 ((rd_T35 t264 x6_3).f0.f1)) ∧ w'.cell? ⟨(ad269.add ((x6_3).toNat * 4)).block, (ad269.add ((x6_3).toNat * 4)).off + 2, none⟩ = some (.int .i64 ((rd_T35 t264 x6_3).f1.f0)) ∧ w'.cell? ⟨(ad269.add ((x6_3).toNat * 4)).block, (ad269.add ((x6_3).toNat * 4)).off + 3, none⟩ = some (.int .i64 ((rd_T35 t264 x6_3).f1.f1)) ∧ w'.cell? (ad269.add ((x7_5).toNat * 4)) = some (.int .i64 ((rd_T35 t264 x7_5).f0.f0)) ∧ w'.cell? ⟨(ad269.add ((x7_5).toNat * 4)).block, (ad269.add ((x7_5).toNat * 4)).off + 1, none⟩ = some (.int .i64 ((rd_T35 t264 x7_5).f0.f1)) ∧ w'.cell? ⟨(ad269.add ((x7_5).toNat * 4)).block, (ad269.add ((x7_5).toNat * 4)).off + 2, none⟩ = some (.int .i64 ((rd_T35 t264 x7_5).f1.f0)) ∧ w'.cell? ⟨(ad269.add ((x7_5).toNat * 4)).block, (ad269.add ((x7_5).toNat * 4)).off + 3, none⟩ = some (.int .i64 ((rd_T35 t264 x7_5).f1.f1)) ∧ w'.cell? (ad269.add ((x6_3).toNat * 4)) = some (.int .i64 ((rd_T35 t264 x6_3).f0.f0)) ∧ w'.cell? ⟨(ad269.add ((x6_3).toNat * 4)).block, (ad269.add ((x6_3).toNat * 4)).off + 1, none⟩ = some (.int .i64 ((rd_T35 t264 x6_3).f0.f1)) ∧ w'.cell? ⟨(ad269.add ((x6_3).toNat * 4)).block, (ad269.add ((x6_3).toNat * 4)).off + 2, none⟩ = some (.int .i64 ((rd_T35 t264 x6_3).f1.f0)) ∧ w'.cell? ⟨(ad269.add ((x6_3).toNat * 4)).block, (ad269.add ((x6_3).toNat * 4)).off + 3, none⟩ = some (.int .i64 ((rd_T35 t264 x6_3).f1.f1)) ∧ w'.cell? (ad269.add ((x7_5).toNat * 4)) = some (.int .i64 ((rd_T35 t264 x7_5).f0.f0)) ∧ w'.cell? ⟨(ad269.add ((x7_5).toNat * 4)).block, (ad269.add ((x7_5).toNat * 4)).off + 1, none⟩ = some (.int .i64 ((rd_T35 t264 x7_5).f0.f1)) ∧ w'.cell? ⟨(ad269.add ((x7_5).toNat * 4)).block, (ad269.add ((x7_5).toNat * 4)).off + 2, none⟩ = some (.int .i64 ((rd_T35 t264 x7_5).f1.f0)) ∧ w'.cell? ⟨(ad269.add ((x7_5).toNat * 4)).block, (ad269.add ((x7_5).toNat * 4)).off + 3, none⟩ = some (.int .i64 ((rd_T35 t264 x7_5).f1.f1)) ∧ w'.cell? (ad269.add ((x6_3).toNat * 4)) = some (.int .i64 ((rd_T35 t264 x6_3).f0.f0)) ∧ w'.cell? ⟨(ad269.add ((x6_3).toNat * 4)).block, (ad269.add ((x6_3).toNat * 4)).off + 1, none⟩ = some (.int .i64 ((rd_T35 t264 x6_3).f0.f1)) ∧ w'.cell? ⟨(ad269.add ((x6_3).toNat * 4)).block, (ad269.add ((x6_3).toNat * 4)).off + 2, none⟩ = some (.int .i64 ((rd_T35 t264 x6_3).f1.f0)) ∧ w'.cell? ⟨(ad269.add ((x6_3).toNat * 4)).block, (ad269.add ((x6_3).toNat * 4)).off + 3, none⟩ = some (.int .i64 ((rd_T35 t264 x6_3).f1.f1)) ∧ w'.cell? (ad269.add ((x7_5).toNat * 4)) = some (.int .i64 ((rd_T35 t264 x7_5).f0.f0)) ∧ w'.cell? ⟨(ad269.add ((x7_5).toNat * 4)).block, (ad269.add ((x7_5).toNat * 4)).off + 1, none⟩ = some (.int .i64 ((rd_T35 t264 x7_5).f0.f1)) ∧ w'.cell? ⟨(ad269.add ((x7_5).toNat * 4)).block, (ad269.add ((x7_5).toNat * 4)).off + 2, none⟩ = some (.int .i64 ((rd_T35 t264 x7_5).f1.f0)) ∧ w'.cell? ⟨(ad269.add ((x7_5).toNat * 4)).block, (ad269.add ((x7_5).toNat * 4)).off + 3, none⟩ = some (.int .i64 ((rd_T35 t264 x7_5).f1.f1))) (ds := []) #[false, false, false, false, false, false, false, false, false, false, false, false, false, false, false, false, false, false, false, false, false, false, false, false, false, false, false, false, false, false, false, false, false, false, false, false, false, false, false, false, false, false, false, false, false, false, false, false, false, false, false] (by kernel_rfl) rfl rfl ⟨hx269_0, hx269_1, hx269_2, hx269_3, hx270_0, hx270_1, hx270_2, hx270_3, hx274_0, hx274_1, hx274_2, hx274_3, hx275_0, hx275_1, hx275_2, hx275_3, hx279_0, hx279_1, hx279_2, hx279_3, hx280_0, hx280_1, hx280_2, hx280_3⟩ (fun hHeld => ?_); refine with_tabW mapmakerlaw20_NodingClean.tab17 mapmakerlaw20_NodingClean.bits17 (fun HT_ HW_ => ?_)
                       generalize wr.drew = w86 at HO_5 HB hx269_0 hx269_1 hx269_2 hx269_3 hx270_0 hx270_1 hx270_2 hx270_3 hx274_0 hx274_1 hx274_2 hx274_3 hx275_0 hx275_1 hx275_2 hx275_3 hx279_0 hx279_1 hx279_2 hx279_3 hx280_0 hx280_1 hx280_2 hx280_3 hHeld ⊢
                       refine pure_ (i := 0) (N := some 65) (v := ?_) (a' := ?_) (ba 51 1) rfl rfl (any_of HT_.out (by kernel_rfl)) (fun _ _ _ h => h) (Or.inl ⟨by rfl, ?_⟩) ?_ ?_
                       rotate_left
                       ·intro w'
                        go_simp
                        with_reducible rfl
                       rotate_left
                       ·simp only [Act.put, sA, sB, sC, i64_w, i32_w]
                        rfl
                       refine pure_ (i := 1) (N := some 66) (v := ?_) (a' := ?_) (ba 51 3) rfl rfl (any_of HT_.out (by kernel_rfl)) (fun _ _ _ h => h) (Or.inl ⟨by rfl, ?_⟩) ?_ ?_
                       rotate_left
                       ·intro w'
                        go_simp
                        with_reducible rfl
                       rotate_left
                       ·simp only [Act.put, sA, sB, sC, i64_w, i32_w]
                        rfl
                       refine pure_ (i := 2) (N := some 67) (v := ?_) (a' := ?_) (ba 51 7) rfl rfl (any_of HT_.out (by kernel_rfl)) (fun _ _ _ h => h) (Or.inl ⟨by rfl, ?_⟩) ?_ ?_
                       rotate_left
                       ·intro w'
                        go_simp
                        with_reducible rfl
                       rotate_left
                       ·simp only [Act.put, sA, sB, sC, i64_w, i32_w]
                        rfl
                       refine pure_ (i := 3) (N := some 68) (v := ?_) (a' := ?_) (ba 51 15) rfl rfl (any_of HT_.out (by kernel_rfl)) (fun _ _ _ h => h) (Or.inl ⟨by rfl, ?_⟩) ?_ ?_
                       rotate_left
                       ·intro w'
                        go_simp
                        with_reducible rfl
                       rotate_left
                       ·simp only [Act.put, sA, sB, sC, i64_w, i32_w]
                        rfl
                       refine pure_ (i := 5) (N := some 70) (v := ?_) (a' := ?_) (ba 51 47) rfl rfl (any_of HT_.out (by kernel_rfl)) (fun _ _ _ h => h) (Or.inl ⟨by rfl, ?_⟩) ?_ ?_
                       rotate_left
                       ·intro w'
                        go_simp
                        with_reducible rfl
                       rotate_left
                       ·simp only [Act.put, sA, sB, sC, i64_w, i32_w]
                        rfl
                       refine pure_ (i := 6) (N := some 71) (v := ?_) (a' := ?_) (ba 51 111) rfl rfl (any_of HT_.out (by kernel_rfl)) (fun _ _ _ h => h) (Or.inl ⟨by rfl, ?_⟩) ?_ ?_
                       rotate_left
                       ·intro w'
                        go_simp
                        with_reducible rfl
                       rotate_left
                       ·simp only [Act.put, sA, sB, sC, i64_w, i32_w]
                        rfl
                       refine pure_ (i := 7) (N := some 72) (v := ?_) (a' := ?_) (ba 51 239) rfl rfl (any_of HT_.out (by kernel_rfl)) (fun _ _ _ h => h) (Or.inl ⟨by rfl, ?_⟩) ?_ ?_
                       rotate_left
                       ·intro w'
                        go_simp
                        with_reducible rfl
                       rotate_left
                       ·simp only [Act.put, sA, sB, sC, i64_w, i32_w]
                        rfl
                       refine pure_ (i := 8) (N := some 73) (v := ?_) (a' := ?_) (ba 51 495) rfl rfl (any_of HT_.out (by kernel_rfl)) (fun _ _ _ h => h) (Or.inl ⟨by rfl, ?_⟩) ?_ ?_
                       rotate_left
                       ·intro w'
                        go_simp
                        with_reducible rfl
                       rotate_left
                       ·simp only [Act.put, sA, sB, sC, i64_w, i32_w]
                        rfl
                       refine take_ (i := 4) (N := some 69) (v := ?_) (a' := ?_) (ba 51 511) rfl rfl (take_ofW HT_.out HW_.out (by kernel_rfl)) (fun _ _ _ h => h) (Or.inl ⟨by rfl, ?_⟩) hHeld ?_ ?_
                       rotate_left
                       ·rintro w' ⟨s0, s1, s2, s3, s4, s5, s6, s7, s8, s9, s10, s11, s12, s13, s14, s15, s16, s17, s18, s19, s20, s21, s22, s23⟩
                        go_simp
                        with_reducible rfl
                       rotate_left
                       ·simp only [Act.put, sA, sB, sC, i64_w, i32_w]
                        rfl
                       refine take_ (i := 9) (N := some 74) (v := ?_) (a' := ?_) (ba 51 1023) rfl rfl (take_ofW HT_.out HW_.out (by kernel_rfl)) (fun _ _ _ h => h) (Or.inl ⟨by rfl, ?_⟩) hHeld ?_ ?_
                       rotate_left
                       ·rintro w' ⟨s0, s1, s2, s3, s4, s5, s6, s7, s8, s9, s10, s11, s12, s13, s14, s15, s16, s17, s18, s19, s20, s21, s22, s23⟩
                        go_simp
                        with_reducible rfl
                       rotate_left
                       ·simp only [Act.put, sA, sB, sC, i64_w, i32_w]
                        rfl
                       refine pure_ (i := 10) (N := some 75) (v := ?_) (a' := ?_) (ba 51 2047) rfl rfl (any_of HT_.out (by kernel_rfl)) (fun _ _ _ h => h) (Or.inl ⟨by rfl, ?_⟩) ?_ ?_
                       rotate_left
                       ·intro w'
                        go_simp
                        with_reducible rfl
                       rotate_left
                       ·simp only [Act.put, sA, sB, sC, i64_w, i32_w]
                        rfl
                       refine pure_ (i := 11) (N := some 76) (v := ?_) (a' := ?_) (ba 51 4095) rfl rfl (any_of HT_.out (by kernel_rfl)) (fun _ _ _ h => h) (Or.inl ⟨by rfl, ?_⟩) ?_ ?_
                       rotate_left
                       ·intro w'
                        go_simp
                        with_reducible rfl
                       rotate_left
                       ·simp only [Act.put, sA, sB, sC, i64_w, i32_w]
                        rfl
                       refine pure_ (i := 12) (N := some 77) (v := ?_) (a' := ?_) (ba 51 8191) rfl rfl (any_of HT_.out (by kernel_rfl)) (fun _ _ _ h => h) (Or.inl ⟨by rfl, ?_⟩) ?_ ?_
                       rotate_left
                       ·intro w'
                        go_simp
                        with_reducible rfl
                       rotate_left
                       ·simp only [Act.put, sA, sB, sC, i64_w, i32_w]
                        rfl
                       refine pure_ (i := 13) (N := some 78) (v := ?_) (a' := ?_) (ba 51 16383) rfl rfl (any_of HT_.out (by kernel_rfl)) (fun _ _ _ h => h) (Or.inl ⟨by rfl, ?_⟩) ?_ ?_
                       rotate_left
                       ·intro w'
                        go_simp
                        with_reducible rfl
                       rotate_left
                       ·simp only [Act.put, sA, sB, sC, i64_w, i32_w]
                        rfl
                       refine pure_ (i := 14) (N := some 79) (v := ?_) (a' := ?_) (ba 51 32767) rfl rfl (any_of HT_.out (by kernel_rfl)) (fun _ _ _ h => h) (Or.inl ⟨by rfl, ?_⟩) ?_ ?_
                       rotate_left
                       ·intro w'
                        go_simp
                        with_reducible rfl
                       rotate_left
                       ·simp only [Act.put, sA, sB, sC, i64_w, i32_w]
                        rfl
                       refine pure_ (i := 15) (N := some 80) (v := ?_) (a' := ?_) (ba 51 65535) rfl rfl (any_of HT_.out (by kernel_rfl)) (fun _ _ _ h => h) (Or.inl ⟨by rfl, ?_⟩) ?_ ?_
                       rotate_left
                       ·intro w'
                        go_simp
                        with_reducible rfl
                       rotate_left
                       ·simp only [Act.put, sA, sB, sC, i64_w, i32_w]
                        rfl
                       refine pure_ (i := 17) (N := some 82) (v := ?_) (a' := ?_) (ba 51 196607) rfl rfl (any_of HT_.out (by kernel_rfl)) (fun _ _ _ h => h) (Or.inl ⟨by rfl, ?_⟩) ?_ ?_
                       rotate_left
                       ·intro w'
                        go_simp
                        with_reducible rfl
                       rotate_left
                       ·simp only [Act.put, sA, sB, sC, i64_w, i32_w]
                        rfl
                       refine pure_ (i := 18) (N := some 83) (v := ?_) (a' := ?_) (ba 51 458751) rfl rfl (any_of HT_.out (by kernel_rfl)) (fun _ _ _ h => h) (Or.inl ⟨by rfl, ?_⟩) ?_ ?_
                       rotate_left
                       ·intro w'
                        go_simp
                        with_reducible rfl
                       rotate_left
                       ·simp only [Act.put, sA, sB, sC, i64_w, i32_w]
                        rfl
                       refine pure_ (i := 19) (N := some 84) (v := ?_) (a' := ?_) (ba 51 983039) rfl rfl (any_of HT_.out (by kernel_rfl)) (fun _ _ _ h => h) (Or.inl ⟨by rfl, ?_⟩) ?_ ?_
                       rotate_left
                       ·intro w'
                        go_simp
                        with_reducible rfl
                       rotate_left
                       ·simp only [Act.put, sA, sB, sC, i64_w, i32_w]
                        rfl
                       refine pure_ (i := 20) (N := some 85) (v := ?_) (a' := ?_) (ba 51 2031615) rfl rfl (any_of HT_.out (by kernel_rfl)) (fun _ _ _ h => h) (Or.inl ⟨by rfl, ?_⟩) ?_ ?_
                       rotate_left
                       ·intro w'
                        go_simp
                        with_reducible rfl
                       rotate_left
                       ·simp only [Act.put, sA, sB, sC, i64_w, i32_w]
                        rfl
                       refine take_ (i := 16) (N := some 81) (v := ?_) (a' := ?_) (ba 51 2097151) rfl rfl (take_ofW HT_.out HW_.out (by kernel_rfl)) (fun _ _ _ h => h) (Or.inl ⟨by rfl, ?_⟩) hHeld ?_ ?_
                       rotate_left
                       ·rintro w' ⟨s0, s1, s2, s3, s4, s5, s6, s7, s8, s9, s10, s11, s12, s13, s14, s15, s16, s17, s18, s19, s20, s21, s22, s23⟩
                        go_simp
                        with_reducible rfl
                       rotate_left
                       ·simp only [Act.put, sA, sB, sC, i64_w, i32_w]
                        rfl
                       refine take_ (i := 21) (N := some 86) (v := ?_) (a' := ?_) (ba 51 4194303) rfl rfl (take_ofW HT_.out HW_.out (by kernel_rfl)) (fun _ _ _ h => h) (Or.inl ⟨by rfl, ?_⟩) hHeld ?_ ?_
                       rotate_left
                       ·rintro w' ⟨s0, s1, s2, s3, s4, s5, s6, s7, s8, s9, s10, s11, s12, s13, s14, s15, s16, s17, s18, s19, s20, s21, s22, s23⟩
                        go_simp
                        with_reducible rfl
                       rotate_left
                       ·simp only [Act.put, sA, sB, sC, i64_w, i32_w]
                        rfl
                       refine pure_ (i := 22) (N := some 87) (v := ?_) (a' := ?_) (ba 51 8388607) rfl rfl (any_of HT_.out (by kernel_rfl)) (fun _ _ _ h => h) (Or.inl ⟨by rfl, ?_⟩) ?_ ?_
                       rotate_left
                       ·intro w'
                        go_simp
                        with_reducible rfl
                       rotate_left
                       ·simp only [Act.put, sA, sB, sC, i64_w, i32_w]
                        rfl
                       refine pure_ (i := 23) (N := some 88) (v := ?_) (a' := ?_) (ba 51 16777215) rfl rfl (any_of HT_.out (by kernel_rfl)) (fun _ _ _ h => h) (Or.inl ⟨by rfl, ?_⟩) ?_ ?_
                       rotate_left
                       ·intro w'
                        go_simp
                        with_reducible rfl
                       rotate_left
                       ·simp only [Act.put, sA, sB, sC, i64_w, i32_w]
                        rfl
                       refine pure_ (i := 24) (N := some 89) (v := ?_) (a' := ?_) (ba 51 33554431) rfl rfl (any_of HT_.out (by kernel_rfl)) (fun _ _ _ h => h) (Or.inl ⟨by rfl, ?_⟩) ?_ ?_
                       rotate_left
                       ·intro w'
                        go_simp
                        with_reducible rfl
                       rotate_left
                       ·simp only [Act.put, sA, sB, sC, i64_w, i32_w]
                        rfl
                       refine pure_ (i := 25) (N := some 90) (v := ?_) (a' := ?_) (ba 51 67108863) rfl rfl (any_of HT_.out (by kernel_rfl)) (fun _ _ _ h => h) (Or.inl ⟨by rfl, ?_⟩) ?_ ?_
                       rotate_left
                       ·intro w'
                        go_simp
                        with_reducible rfl
                       rotate_left
                       ·simp only [Act.put, sA, sB, sC, i64_w, i32_w]
                        rfl
                       refine pure_ (i := 26) (N := some 91) (v := ?_) (a' := ?_) (ba 51 134217727) rfl rfl (any_of HT_.out (by kernel_rfl)) (fun _ _ _ h => h) (Or.inl ⟨by rfl, ?_⟩) ?_ ?_
                       rotate_left
                       ·intro w'
                        go_simp
                        with_reducible rfl
                       rotate_left
                       ·simp only [Act.put, sA, sB, sC, i64_w, i32_w]
                        rfl
                       refine pure_ (i := 27) (N := some 92) (v := ?_) (a' := ?_) (ba 51 268435455) rfl rfl (any_of HT_.out (by kernel_rfl)) (fun _ _ _ h => h) (Or.inl ⟨by rfl, ?_⟩) ?_ ?_
                       rotate_left
                       ·intro w'
                        go_simp
                        with_reducible rfl
                       rotate_left
                       ·simp only [Act.put, sA, sB, sC, i64_w, i32_w]
                        rfl
                       refine pure_ (i := 28) (N := some 93) (v := ?_) (a' := ?_) (ba 51 536870911) rfl rfl (any_of HT_.out (by kernel_rfl)) (fun _ _ _ h => h) (Or.inl ⟨by rfl, ?_⟩) ?_ ?_
                       rotate_left
                       ·intro w'
                        go_simp
                        with_reducible rfl
                       rotate_left
                       ·simp only [Act.put, sA, sB, sC, i64_w, i32_w]
                        rfl
                       refine pure_ (i := 30) (N := some 95) (v := ?_) (a' := ?_) (ba 51 1610612735) rfl rfl (any_of HT_.out (by kernel_rfl)) (fun _ _ _ h => h) (Or.inl ⟨by rfl, ?_⟩) ?_ ?_
                       rotate_left
                       ·intro w'
                        go_simp
                        with_reducible rfl
                       rotate_left
                       ·simp only [Act.put, sA, sB, sC, i64_w, i32_w]
                        rfl
                       refine pure_ (i := 31) (N := some 96) (v := ?_) (a' := ?_) (ba 51 3758096383) rfl rfl (any_of HT_.out (by kernel_rfl)) (fun _ _ _ h => h) (Or.inl ⟨by rfl, ?_⟩) ?_ ?_
                       rotate_left
                       ·intro w'
                        go_simp
                        with_reducible rfl
                       rotate_left
                       ·simp only [Act.put, sA, sB, sC, i64_w, i32_w]
                        rfl
                       refine pure_ (i := 32) (N := some 97) (v := ?_) (a' := ?_) (ba 51 8053063679) rfl rfl (any_of HT_.out (by kernel_rfl)) (fun _ _ _ h => h) (Or.inl ⟨by rfl, ?_⟩) ?_ ?_
                       rotate_left
                       ·intro w'
                        go_simp
                        with_reducible rfl
                       rotate_left
                       ·simp only [Act.put, sA, sB, sC, i64_w, i32_w]
                        rfl
                       refine pure_ (i := 33) (N := some 98) (v := ?_) (a' := ?_) (ba 51 16642998271) rfl rfl (any_of HT_.out (by kernel_rfl)) (fun _ _ _ h => h) (Or.inl ⟨by rfl, ?_⟩) ?_ ?_
                       rotate_left
                       ·intro w'
                        go_simp
                        with_reducible rfl
                       rotate_left
                       ·simp only [Act.put, sA, sB, sC, i64_w, i32_w]
                        rfl
                       refine take_ (i := 29) (N := some 94) (v := ?_) (a' := ?_) (ba 51 17179869183) rfl rfl (take_ofW HT_.out HW_.out (by kernel_rfl)) (fun _ _ _ h => h) (Or.inl ⟨by rfl, ?_⟩) hHeld ?_ ?_
                       rotate_left
                       ·rintro w' ⟨s0, s1, s2, s3, s4, s5, s6, s7, s8, s9, s10, s11, s12, s13, s14, s15, s16, s17, s18, s19, s20, s21, s22, s23⟩
                        go_simp
                        with_reducible rfl
                       rotate_left
                       ·simp only [Act.put, sA, sB, sC, i64_w, i32_w]
                        rfl
                       refine take_ (i := 34) (N := some 99) (v := ?_) (a' := ?_) (ba 51 34359738367) rfl rfl (take_ofW HT_.out HW_.out (by kernel_rfl)) (fun _ _ _ h => h) (Or.inl ⟨by rfl, ?_⟩) hHeld ?_ ?_
                       rotate_left
                       ·rintro w' ⟨s0, s1, s2, s3, s4, s5, s6, s7, s8, s9, s10, s11, s12, s13, s14, s15, s16, s17, s18, s19, s20, s21, s22, s23⟩
                        go_simp
                        with_reducible rfl
                       rotate_left
                       ·simp only [Act.put, sA, sB, sC, i64_w, i32_w]
                        rfl
                       refine pure_ (i := 35) (N := some 100) (v := ?_) (a' := ?_) (ba 51 68719476735) rfl rfl (any_of HT_.out (by kernel_rfl)) (fun _ _ _ h => h) (Or.inl ⟨by rfl, ?_⟩) ?_ ?_
                       rotate_left
                       ·intro w'
                        go_simp
                        with_reducible rfl
                       rotate_left
                       ·simp only [Act.put, sA, sB, sC, i64_w, i32_w]
                        rfl
                       refine pure_ (i := 36) (N := some 101) (v := ?_) (a' := ?_) (ba 51 137438953471) rfl rfl (any_of HT_.out (by kernel_rfl)) (fun _ _ _ h => h) (Or.inl ⟨by rfl, ?_⟩) ?_ ?_
                       rotate_left
                       ·intro w'
                        go_simp
                        with_reducible rfl
                       rotate_left
                       ·simp only [Act.put, sA, sB, sC, i64_w, i32_w]
                        rfl
                       refine pure_ (i := 37) (N := some 102) (v := ?_) (a' := ?_) (ba 51 274877906943) rfl rfl (any_of HT_.out (by kernel_rfl)) (fun _ _ _ h => h) (Or.inl ⟨by rfl, ?_⟩) ?_ ?_
                       rotate_left
                       ·intro w'
                        go_simp
                        with_reducible rfl
                       rotate_left
                       ·simp only [Act.put, sA, sB, sC, i64_w, i32_w]
                        rfl
                       refine pure_ (i := 38) (N := some 103) (v := undef) (a' := ?_) (ba 51 549755813887) rfl rfl (any_of HT_.out (by kernel_rfl)) (fun _ _ _ h => h) (Or.inr ⟨by rfl, rfl⟩) ?_ ?_
                       rotate_left
                       ·simp only [Act.put, sA, sB, sC, i64_w, i32_w]
                        rfl
                       refine pure_ (i := 39) (N := some 104) (v := undef) (a' := ?_) (ba 51 1099511627775) rfl rfl (any_of HT_.out (by kernel_rfl)) (fun _ _ _ h => h) (Or.inr ⟨by rfl, rfl⟩) ?_ ?_
                       rotate_left
                       ·simp only [Act.put, sA, sB, sC, i64_w, i32_w]
                        rfl
                       refine pure_ (i := 40) (N := some 105) (v := undef) (a' := ?_) (ba 51 2199023255551) rfl rfl (any_of HT_.out (by kernel_rfl)) (fun _ _ _ h => h) (Or.inr ⟨by rfl, rfl⟩) ?_ ?_
                       rotate_left
                       ·simp only [Act.put, sA, sB, sC, i64_w, i32_w]
                        rfl
                       refine pure_ (i := 41) (N := some 106) (v := undef) (a' := ?_) (ba 51 4398046511103) rfl rfl (any_of HT_.out (by kernel_rfl)) (fun _ _ _ h => h) (Or.inr ⟨by rfl, rfl⟩) ?_ ?_
                       rotate_left
                       ·simp only [Act.put, sA, sB, sC, i64_w, i32_w]
                        rfl
                       refine pure_ (i := 42) (N := some 107) (v := undef) (a' := ?_) (ba 51 8796093022207) rfl rfl (any_of HT_.out (by kernel_rfl)) (fun _ _ _ h => h) (Or.inr ⟨by rfl, rfl⟩) ?_ ?_
                       rotate_left
                       ·simp only [Act.put, sA, sB, sC, i64_w, i32_w]
                        rfl
                       refine pure_ (i := 43) (N := some 108) (v := undef) (a' := ?_) (ba 51 17592186044415) rfl rfl (any_of HT_.out (by kernel_rfl)) (fun _ _ _ h => h) (Or.inr ⟨by rfl, rfl⟩) ?_ ?_
                       rotate_left
                       ·simp only [Act.put, sA, sB, sC, i64_w, i32_w]
                        rfl
                       refine pure_ (i := 44) (N := some 109) (v := undef) (a' := ?_) (ba 51 35184372088831) rfl rfl (any_of HT_.out (by kernel_rfl)) (fun _ _ _ h => h) (Or.inr ⟨by rfl, rfl⟩) ?_ ?_
                       rotate_left
                       ·simp only [Act.put, sA, sB, sC, i64_w, i32_w]
                        rfl
                       refine pure_ (i := 45) (N := some 110) (v := undef) (a' := ?_) (ba 51 70368744177663) rfl rfl (any_of HT_.out (by kernel_rfl)) (fun _ _ _ h => h) (Or.inr ⟨by rfl, rfl⟩) ?_ ?_
                       rotate_left
                       ·simp only [Act.put, sA, sB, sC, i64_w, i32_w]
                        rfl
                       refine pure_ (i := 46) (N := some 111) (v := undef) (a' := ?_) (ba 51 140737488355327) rfl rfl (any_of HT_.out (by kernel_rfl)) (fun _ _ _ h => h) (Or.inr ⟨by rfl, rfl⟩) ?_ ?_
                       rotate_left
                       ·simp only [Act.put, sA, sB, sC, i64_w, i32_w]
                        rfl
                       refine pure_ (i := 47) (N := some 112) (v := undef) (a' := ?_) (ba 51 281474976710655) rfl rfl (any_of HT_.out (by kernel_rfl)) (fun _ _ _ h => h) (Or.inr ⟨by rfl, rfl⟩) ?_ ?_
                       rotate_left
                       ·simp only [Act.put, sA, sB, sC, i64_w, i32_w]
                        rfl
                       refine pure_ (i := 48) (N := some 113) (v := undef) (a' := ?_) (ba 51 562949953421311) rfl rfl (any_of HT_.out (by kernel_rfl)) (fun _ _ _ h => h) (Or.inr ⟨by rfl, rfl⟩) ?_ ?_
                       rotate_left
                       ·simp only [Act.put, sA, sB, sC, i64_w, i32_w]
                        rfl
                       refine pure_ (i := 49) (N := some 114) (v := ?_) (a' := ?_) (ba 51 1125899906842623) rfl rfl (any_of HT_.out (by kernel_rfl)) (fun _ _ _ h => h) (Or.inl ⟨by rfl, ?_⟩) ?_ ?_
                       rotate_left
                       ·intro w'
                        go_simp
                        with_reducible rfl
                       rotate_left
                       ·simp only [Act.put, sA, sB, sC, i64_w, i32_w]
                        rfl
                       refine pure_ (i := 50) (N := some 8) (v := ?_) (a' := ?_) (ba 51 2251799813685247) rfl rfl (any_of HT_.out (by kernel_rfl)) (fun _ _ _ h => h) (Or.inl ⟨by rfl, ?_⟩) ?_ ?_
                       rotate_left
                       ·intro w'
                        go_simp
                        with_reducible rfl
                       rotate_left
                       ·simp only [Act.put, sA, sB, sC, i64_w, i32_w]
                        rfl
                       refine done_ (done_of HT_.out (by kernel_rfl)) ?_
                       try go_wp2
                       replace HO_5 := aM (rD HO_5.out)
                       replace HB := aM (bD HB.out)
                       have p281 : 0 ≤ (x6_3 : Int) := of_decide_eq_true (by first | (with_reducible assumption) | assumption)
                       have q281 : x6_3 < (t264.length : Int) := of_decide_eq_true (by first | (with_reducible assumption) | assumption)
                       obtain ⟨ad281, e281, hx281_0, hx281_1, hx281_2, hx281_3⟩ := at_T35 (rR HO_5.out).2.2 x6_3 p281 q281
                       obtain rfl : ad269 = ad281 := (by injection e281)
                       replace p281 := eq_true p281
                       replace q281 := eq_true q281
                       have p282 : 0 ≤ (x7_5 : Int) := of_decide_eq_true (by first | (with_reducible assumption) | assumption)
                       have q282 : x7_5 < (t264.length : Int) := of_decide_eq_true (by first | (with_reducible assumption) | assumption)
                       obtain ⟨ad282, e282, hx282_0, hx282_1, hx282_2, hx282_3⟩ := at_T35 (rR HO_5.out).2.2 x7_5 p282 q282
                       obtain rfl : ad269 = ad282 := (by injection e282)
                       replace p282 := eq_true p282
                       replace q282 := eq_true q282
                       refine start_ (n := 10) (S := fun w' => w'.cell? (ad269.add ((x6_3).toNat * 4)) = some (.int .i64 ((rd_T35 t264 x6_3).f0.f0)) ∧ w'.cell? ⟨(ad269.add ((x6_3).toNat * 4)).block, (ad269.add ((x6_3).toNat * 4)).off + 1, none⟩ = some (.int .i64 ((rd_T35 t264 x6_3).f0.f1)) ∧ w'.cell? ⟨(ad269.add ((x6_3).toNat * 4)).block, (ad269.add ((x6_3).toNat * 4)).off + 2, none⟩ = some (.int .i64 ((rd_T35 t264 x6_3).f1.f0)) ∧ w'.cell? ⟨(ad269.add ((x6_3).toNat * 4)).block, (ad269.add ((x6_3).toNat * 4)).off + 3, none⟩ = some (.int .i64 ((rd_T35 t264 x6_3).f1.f1)) ∧ w'.cell? (ad269.add ((x7_5).toNat * 4)) = some (.int .i64 ((rd_T35 t264 x7_5).f0.f0)) ∧ w'.cell? ⟨(ad269.add ((x7_5).toNat * 4)).block, (ad269.add ((x7_5).toNat * 4)).off + 1, none⟩ = some (.int .i64 ((rd_T35 t264 x7_5).f0.f1)) ∧ w'.cell? ⟨(ad269.add ((x7_5).toNat * 4)).block, (ad269.add ((x7_5).toNat * 4)).off + 2, none⟩ = some (.int .i64 ((rd_T35 t264 x7_5).f1.f0)) ∧ w'.cell? ⟨(ad269.add ((x7_5).toNat * 4)).block, (ad269.add ((x7_5).toNat * 4)).off + 3, none⟩ = some (.int .i64 ((rd_T35 t264 x7_5).f1.f1))) (ds := []) #[false, false, false, false, false, false, false, false, false, false] (by kernel_rfl) rfl rfl ⟨hx281_0, hx281_1, hx281_2, hx281_3, hx282_0, hx282_1, hx282_2, hx282_3⟩ (fun hHeld => ?_); refine with_tabW mapmakerlaw20_NodingClean.tab18 mapmakerlaw20_NodingClean.bits18 (fun HT_ HW_ => ?_)
                       generalize w86.drew = w88 at HO_5 HB hx281_0 hx281_1 hx281_2 hx281_3 hx282_0 hx282_1 hx282_2 hx282_3 hHeld ⊢
                       refine pure_ (i := 0) (N := some 115) (v := ?_) (a' := ?_) (ba 10 1) rfl rfl (any_of HT_.out (by kernel_rfl)) (fun _ _ _ h => h) (Or.inl ⟨by rfl, ?_⟩) ?_ ?_
                       rotate_left
                       ·intro w'
                        go_simp
                        with_reducible rfl
                       rotate_left
                       ·simp only [Act.put, sA, sB, sC, i64_w, i32_w]
                        rfl
                       refine pure_ (i := 1) (N := some 116) (v := ?_) (a' := ?_) (ba 10 3) rfl rfl (any_of HT_.out (by kernel_rfl)) (fun _ _ _ h => h) (Or.inl ⟨by rfl, ?_⟩) ?_ ?_
                       rotate_left
                       ·intro w'
                        go_simp
                        with_reducible rfl
                       rotate_left
                       ·simp only [Act.put, sA, sB, sC, i64_w, i32_w]
                        rfl
                       refine pure_ (i := 2) (N := some 117) (v := ?_) (a' := ?_) (ba 10 7) rfl rfl (any_of HT_.out (by kernel_rfl)) (fun _ _ _ h => h) (Or.inl ⟨by rfl, ?_⟩) ?_ ?_
                       rotate_left
                       ·intro w'
                        go_simp
                        with_reducible rfl
                       rotate_left
                       ·simp only [Act.put, sA, sB, sC, i64_w, i32_w]
                        rfl
                       refine pure_ (i := 4) (N := some 119) (v := ?_) (a' := ?_) (ba 10 23) rfl rfl (any_of HT_.out (by kernel_rfl)) (fun _ _ _ h => h) (Or.inl ⟨by rfl, ?_⟩) ?_ ?_
                       rotate_left
                       ·intro w'
                        go_simp
                        with_reducible rfl
                       rotate_left
                       ·simp only [Act.put, sA, sB, sC, i64_w, i32_w]
                        rfl
                       refine pure_ (i := 5) (N := some 120) (v := ?_) (a' := ?_) (ba 10 55) rfl rfl (any_of HT_.out (by kernel_rfl)) (fun _ _ _ h => h) (Or.inl ⟨by rfl, ?_⟩) ?_ ?_
                       rotate_left
                       ·intro w'
                        go_simp
                        with_reducible rfl
                       rotate_left
                       ·simp only [Act.put, sA, sB, sC, i64_w, i32_w]
                        rfl
                       refine pure_ (i := 6) (N := some 121) (v := ?_) (a' := ?_) (ba 10 119) rfl rfl (any_of HT_.out (by kernel_rfl)) (fun _ _ _ h => h) (Or.inl ⟨by rfl, ?_⟩) ?_ ?_
                       rotate_left
                       ·intro w'
                        go_simp
                        with_reducible rfl
                       rotate_left
                       ·simp only [Act.put, sA, sB, sC, i64_w, i32_w]
                        rfl
                       refine take_ (i := 3) (N := some 118) (v := ?_) (a' := ?_) (ba 10 127) rfl rfl (take_ofW HT_.out HW_.out (by kernel_rfl)) (fun _ _ _ h => h) (Or.inl ⟨by rfl, ?_⟩) hHeld ?_ ?_
                       rotate_left
                       ·rintro w' ⟨s0, s1, s2, s3, s4, s5, s6, s7⟩
                        go_simp
                        with_reducible rfl
                       rotate_left
                       ·simp only [Act.put, sA, sB, sC, i64_w, i32_w]
                        rfl
                       refine take_ (i := 7) (N := some 122) (v := ?_) (a' := ?_) (ba 10 255) rfl rfl (take_ofW HT_.out HW_.out (by kernel_rfl)) (fun _ _ _ h => h) (Or.inl ⟨by rfl, ?_⟩) hHeld ?_ ?_
                       rotate_left
                       ·rintro w' ⟨s0, s1, s2, s3, s4, s5, s6, s7⟩
                        go_simp
                        with_reducible rfl
                       rotate_left
                       ·simp only [Act.put, sA, sB, sC, i64_w, i32_w]
                        rfl
                       refine one_ (i := 8) (N := some 123) (ba 10 511) rfl rfl (one_of HT_.out (by kernel_rfl)) (by decide) (fun K hK => ?_)
                       refine goes_ Try.func27 (by kernel_rfl) rfl #[.agg #[.int .i64 ((rd_T35 t264 x6_3).f0.f0), .int .i64 ((rd_T35 t264 x6_3).f0.f1), .int .i64 ((rd_T35 t264 x6_3).f1.f0), .int .i64 ((rd_T35 t264 x6_3).f1.f1)], .agg #[.int .i64 ((rd_T35 t264 x7_5).f0.f0), .int .i64 ((rd_T35 t264 x7_5).f0.f1), .int .i64 ((rd_T35 t264 x7_5).f1.f0), .int .i64 ((rd_T35 t264 x7_5).f1.f1)]] (by rfl) rfl rfl (by (try simp only [List.map_toArray, List.map_cons, List.map_nil]); first | done | rfl | (simp only [List.length_drop, List.length_take]; rfl)) ?_
                       with_reducible refine (mapmakerref09_Relate.calls k5 ((rd_T35 t264 x6_3).f0.f0) ((rd_T35 t264 x6_3).f0.f1) ((rd_T35 t264 x6_3).f1.f0) ((rd_T35 t264 x6_3).f1.f1) ((rd_T35 t264 x7_5).f0.f0) ((rd_T35 t264 x7_5).f0.f1) ((rd_T35 t264 x7_5).f1.f0) ((rd_T35 t264 x7_5).f1.f1) t283 _ A75.out).mono ?_
                       rintro e w89 ⟨rfl, hb⟩
                       obtain ⟨q0, q1, q2, q3, q4, q5, q6, q7⟩ := hHeld
                       have HS_ := And.intro (hs hb q0) <| And.intro (hs hb q1) <| And.intro (hs hb q2) <| And.intro (hs hb q3) <| And.intro (hs hb q4) <| And.intro (hs hb q5) <| And.intro (hs hb q6) <| hs hb q7
                       refine ⟨_, rfl, ?_⟩
                       replace HO_5 := aM (rB (rl HO_5) hb)
                       replace HB := aM (bS (bl) hb)
                       (try clear hb)
                       (try clear hb2)
                       (try clear hk)
                       (try clear hi)
                       refine hK.out _ _ HS_ (fun hHeld => ?_)
                       clear hK K
                       refine norm_ (a' := ?_) ?_ ?_
                       rotate_left
                       ·show Act.put _ (some 123) _ = _
                        simp only [Act.put, sA, sB, sC, i64_w, i32_w]
                        rfl
                       refine pure_ (i := 9) (N := some 9) (v := ?_) (a' := ?_) (ba 10 1023) rfl rfl (any_of HT_.out (by kernel_rfl)) (fun _ _ _ h => h) (Or.inl ⟨by rfl, ?_⟩) ?_ ?_
                       rotate_left
                       ·intro w'
                        go_simp
                        with_reducible rfl
                       rotate_left
                       ·simp only [Act.put, sA, sB, sC, i64_w, i32_w]
                        rfl
                       refine done_ (done_of HT_.out (by kernel_rfl)) ?_
                       have H := HZ.out
                       clear HZ
                       by_cases q1 : t283 > 1
                       ·rw [if_pos q1] at H
                        have q1b0 : decide (1 < t283) = true := decide_eq_true q1
                        clear q1
                        obtain rfl := Option.some.inj H
                        try go_wp2
                        go_ret
                        exact ⟨by first | rfl | (simp [errW_none, errW_some] <;> rfl) | (simp [*, errW_none, errW_some] <;> rfl), bl⟩
                       ·rw [if_neg q1] at H
                        have q1b0 : decide (1 < t283) = false := decide_eq_false q1
                        clear q1
                        by_cases q2 : t283 = 1
                        ·rw [if_pos q2] at H
                         have q2b0 : (t283 == 1) = true := beq_iff_eq.mpr q2
                         have q2b1 : (t283 != 1) = false := bne_eq_false_iff_eq.mpr q2
                         clear q2
                         have H' := aM H
                         clear H
                         try go_wp2
                         go_roundg k5
                         case measure => have := HK1.out; have := HJ9.out; have := HK3.out; have := HJ29.out; have := HK5.out; omega
                         case rel => exact ⟨(wrap64 (x7_5 + 1)), (by first | rfl | (simp; done) | (simp [*]; done)), H', ⟨by have := HK1.out; have := HJ9.out; have := HK3.out; have := HJ29.out; have := HK5.out; omega⟩, ⟨by (with_reducible repeat (first | apply rA | apply rN | apply rD)); exact HO_5.out⟩, ⟨bl⟩⟩
                        ·rw [if_neg q2] at H
                         have q2b0 : (t283 == 1) = false := beq_eq_false_iff_ne.mpr q2
                         have q2b1 : (t283 != 1) = true := bne_iff_ne.mpr q2
                         have H' := aM H
                         clear H
                         try go_wp2
                         go_roundg k5
                         case measure => have := HK1.out; have := HJ9.out; have := HK3.out; have := HJ29.out; have := HK5.out; omega
                         case rel => exact ⟨(wrap64 (x7_5 + 1)), (by first | rfl | (simp; done) | (simp [*]; done)), H', ⟨by have := HK1.out; have := HJ9.out; have := HK3.out; have := HJ29.out; have := HK5.out; omega⟩, ⟨by (with_reducible repeat (first | apply rA | apply rN | apply rD)); exact HO_5.out⟩, ⟨bl⟩⟩
                      ·rw [if_neg c74] at H
                       have c74b0 : (((rd_T35 t264 x6_3).f1.f0) == ((rd_T35 t264 x7_5).f0.f0) && (((rd_T35 t264 x6_3).f1.f1) == ((rd_T35 t264 x7_5).f0.f1))) = false := by simpa using c74
                       (try (have c74b1 : decide (((rd_T35 t264 x6_3).f1.f0) = ((rd_T35 t264 x7_5).f0.f0) && (((rd_T35 t264 x6_3).f1.f1) == ((rd_T35 t264 x7_5).f0.f1))) = false := by simpa using c74))
                       (try (have c74b2 : (((rd_T35 t264 x6_3).f1.f0) == ((rd_T35 t264 x7_5).f0.f0) && (((rd_T35 t264 x6_3).f1.f1) == ((rd_T35 t264 x7_5).f0.f1))) = false := by simpa using c74))
                       (try (have c74b3 : ¬ (((rd_T35 t264 x6_3).f1.f0) = ((rd_T35 t264 x7_5).f0.f0) && (((rd_T35 t264 x6_3).f1.f1) == ((rd_T35 t264 x7_5).f0.f1))) := by simpa using c74))
                       clear c74
                       replace H := Option.bind_eq_some_iff.mp H
                       obtain ⟨t288, A900, H⟩ := H
                       try dsimp only at H
                       have A90 := aM A900
                       clear A900
                       have HZ := aM H
                       clear H
                       try go_wp2
                       replace HO_5 := aM (rD HO_5.out)
                       replace HB := aM (bD HB.out)
                       obtain ⟨Ao107, co107, eo107⟩ := Kd.R_slice HO_5.out
                       (first | subst eo107 | (injection eo107 with f1_ f2_ f3_; have f4_ := f1_.symm; have f5_ := f3_.symm; clear f1_ f2_ f3_; subst f4_; subst f5_))
                       have p269 : 0 ≤ (x6_3 : Int) := of_decide_eq_true (by first | (with_reducible assumption) | assumption)
                       have q269 : x6_3 < (t264.length : Int) := of_decide_eq_true (by first | (with_reducible assumption) | assumption)
                       obtain ⟨ad269, e269, hx269_0, hx269_1, hx269_2, hx269_3⟩ := at_T35 (rR HO_5.out).2.2 x6_3 p269 q269
                       cases e269
                       replace p269 := eq_true p269
                       replace q269 := eq_true q269
                       have p270 : 0 ≤ (x7_5 : Int) := of_decide_eq_true (by first | (with_reducible assumption) | assumption)
                       have q270 : x7_5 < (t264.length : Int) := of_decide_eq_true (by first | (with_reducible assumption) | assumption)
                       obtain ⟨ad270, e270, hx270_0, hx270_1, hx270_2, hx270_3⟩ := at_T35 (rR HO_5.out).2.2 x7_5 p270 q270
                       obtain rfl : ad269 = ad270 := (by injection e270)
                       replace p270 := eq_true p270
                       replace q270 := eq_true q270
                       have p274 : 0 ≤ (x6_3 : Int) := of_decide_eq_true (by first | (with_reducible assumption) | assumption)
                       have q274 : x6_3 < (t264.length : Int) := of_decide_eq_true (by first | (with_reducible assumption) | assumption)
                       obtain ⟨ad274, e274, hx274_0, hx274_1, hx274_2, hx274_3⟩ := at_T35 (rR HO_5.out).2.2 x6_3 p274 q274
                       obtain rfl : ad269 = ad274 := (by injection e274)
                       replace p274 := eq_true p274
                       replace q274 := eq_true q274
                       have p275 : 0 ≤ (x7_5 : Int) := of_decide_eq_true (by first | (with_reducible assumption) | assumption)
                       have q275 : x7_5 < (t264.length : Int) := of_decide_eq_true (by first | (with_reducible assumption) | assumption)
                       obtain ⟨ad275, e275, hx275_0, hx275_1, hx275_2, hx275_3⟩ := at_T35 (rR HO_5.out).2.2 x7_5 p275 q275
                       obtain rfl : ad269 = ad275 := (by injection e275)
                       replace p275 := eq_true p275
                       replace q275 := eq_true q275
                       have p279 : 0 ≤ (x6_3 : Int) := of_decide_eq_true (by first | (with_reducible assumption) | assumption)
                       have q279 : x6_3 < (t264.length : Int) := of_decide_eq_true (by first | (with_reducible assumption) | assumption)
                       obtain ⟨ad279, e279, hx279_0, hx279_1, hx279_2, hx279_3⟩ := at_T35 (rR HO_5.out).2.2 x6_3 p279 q279
                       obtain rfl : ad269 = ad279 := (by injection e279)
                       replace p279 := eq_true p279
                       replace q279 := eq_true q279
                       have p280 : 0 ≤ (x7_5 : Int) := of_decide_eq_true (by first | (with_reducible assumption) | assumption)
                       have q280 : x7_5 < (t264.length : Int) := of_decide_eq_true (by first | (with_reducible assumption) | assumption)
                       obtain ⟨ad280, e280, hx280_0, hx280_1, hx280_2, hx280_3⟩ := at_T35 (rR HO_5.out).2.2 x7_5 p280 q280
                       obtain rfl : ad269 = ad280 := (by injection e280)
                       replace p280 := eq_true p280
                       replace q280 := eq_true q280
                       have p284 : 0 ≤ (x6_3 : Int) := of_decide_eq_true (by first | (with_reducible assumption) | assumption)
                       have q284 : x6_3 < (t264.length : Int) := of_decide_eq_true (by first | (with_reducible assumption) | assumption)
                       obtain ⟨ad284, e284, hx284_0, hx284_1, hx284_2, hx284_3⟩ := at_T35 (rR HO_5.out).2.2 x6_3 p284 q284
                       obtain rfl : ad269 = ad284 := (by injection e284)
                       replace p284 := eq_true p284
                       replace q284 := eq_true q284
                       have p285 : 0 ≤ (x7_5 : Int) := of_decide_eq_true (by first | (with_reducible assumption) | assumption)
                       have q285 : x7_5 < (t264.length : Int) := of_decide_eq_true (by first | (with_reducible assumption) | assumption)
                       obtain ⟨ad285, e285, hx285_0, hx285_1, hx285_2, hx285_3⟩ := at_T35 (rR HO_5.out).2.2 x7_5 p285 q285
                       obtain rfl : ad269 = ad285 := (by injection e285)
                       replace p285 := eq_true p285
                       replace q285 := eq_true q285
                       refine start_ (n := 51) (S := fun w' => w'.cell? (ad269.add ((x6_3).toNat * 4)) = some (.int .i64 ((rd_T35 t264 x6_3).f0.f0)) ∧ w'.cell? ⟨(ad269.add ((x6_3).toNat * 4)).block, (ad269.add ((x6_3).toNat * 4)).off + 1, none⟩ = some (.int .i64 ((rd_T35 t264 x6_3).f0.f1)) ∧ w'.cell? ⟨(ad269.add ((x6_3).toNat * 4)).block, (ad269.add ((x6_3).toNat * 4)).off + 2, none⟩ = some (.int .i64 ((rd_T35 t264 x6_3).f1.f0)) ∧ w'.cell? ⟨(ad269.add ((x6_3).toNat * 4)).block, (ad269.add ((x6_3).toNat * 4)).off + 3, none⟩ = some (.int .i64 ((rd_T35 t264 x6_3).f1.f1)) ∧ w'.cell? (ad269.add ((x7_5).toNat * 4)) = some (.int .i64 ((rd_T35 t264 x7_5).f0.f0)) ∧ w'.cell? ⟨(ad269.add ((x7_5).toNat * 4)).block, (ad269.add ((x7_5).toNat * 4)).off + 1, none⟩ = some (.int .i64 ((rd_T35 t264 x7_5).f0.f1)) ∧ w'.cell? ⟨(ad269.add ((x7_5).toNat * 4)).block, (ad269.add ((x7_5).toNat * 4)).off + 2, none⟩ = some (.int .i64 ((rd_T35 t264 x7_5).f1.f0)) ∧ w'.cell? ⟨(ad269.add ((x7_5).toNat * 4)).block, (ad269.add ((x7_5).toNat * 4)).off + 3, none⟩ = some (.int .i64 ((rd_T35 t264 x7_5).f1.f1)) ∧ w'.cell? (ad269.add ((x6_3).toNat * 4)) = some (.int .i64 ((rd_T35 t264 x6_3).f0.f0)) ∧ w'.cell? ⟨(ad269.add ((x6_3).toNat * 4)).block, (ad269.add ((x6_3).toNat * 4)).off + 1, none⟩ = some (.int .i64 ((rd_T35 t264 x6_3).f0.f1)) ∧ w'.cell? ⟨(ad269.add ((x6_3).toNat * 4)).block, (ad269.add ((x6_3).toNat * 4)).off + 2, none⟩ = some (.int .i64 ((rd_T35 t264 x6_3).f1.f0)) ∧ w'.cell? ⟨(ad269.add ((x6_3).toNat * 4)).block, (ad269.add ((x6_3).toNat * 4)).off + 3, none⟩ = some (.int .i64 ((rd_T35 t264 x6_3).f1.f1)) ∧ w'.cell? (ad269.add ((x7_5).toNat * 4)) = some (.int .i64 ((rd_T35 t264 x7_5).f0.f0)) ∧ w'.cell? ⟨(ad269.add ((x7_5).toNat * 4)).block, (ad269.add ((x7_5).toNat * 4)).off + 1, none⟩ = some (.int .i64 ((rd_T35 t264 x7_5).f0.f1)) ∧ w'.cell? ⟨(ad269.add ((x7_5).toNat * 4)).block, (ad269.add ((x7_5).toNat * 4)).off + 2, none⟩ = some (.int .i64 ((rd_T35 t264 x7_5).f1.f0)) ∧ w'.cell? ⟨(ad269.add ((x7_5).toNat * 4)).block, (ad269.add ((x7_5).toNat * 4)).off + 3, none⟩ = some (.int .i64 ((rd_T35 t264 x7_5).f1.f1)) ∧ w'.cell? (ad269.add ((x6_3).toNat * 4)) = some (.int .i64 ((rd_T35 t264 x6_3).f0.f0)) ∧ w'.cell? ⟨(ad269.add ((x6_3).toNat * 4)).block, (ad269.add ((x6_3).toNat * 4)).off + 1, none⟩ = some (.int .i64 ((rd_T35 t264 x6_3).f0.f1)) ∧ w'.cell? ⟨(ad269.add ((x6_3).toNat * 4)).block, (ad269.add ((x6_3).toNat * 4)).off + 2, none⟩ = some (.int .i64 ((rd_T35 t264 x6_3).f1.f0)) ∧ w'.cell? ⟨(ad269.add ((x6_3).toNat * 4)).block, (ad269.add ((x6_3).toNat * 4)).off + 3, none⟩ = some (.int .i64 ((rd_T35 t264 x6_3).f1.f1)) ∧ w'.cell? (ad269.add ((x7_5).toNat * 4)) = some (.int .i64 ((rd_T35 t264 x7_5).f0.f0)) ∧ w'.cell? ⟨(ad269.add ((x7_5).toNat * 4)).block, (ad269.add ((x7_5).toNat * 4)).off + 1, none⟩ = some (.int .i64 ((rd_T35 t264 x7_5).f0.f1)) ∧ w'.cell? ⟨(ad269.add ((x7_5).toNat * 4)).block, (ad269.add ((x7_5).toNat * 4)).off + 2, none⟩ = some (.int .i64 ((rd_T35 t264 x7_5).f1.f0)) ∧ w'.cell? ⟨(ad269.add ((x7_5).toNat * 4)).block, (ad269.add ((x7_5).toNat * 4)).off + 3, none⟩ = some (.int .i64 ((rd_T35 t264 x7_5).f1.f1)) ∧ w'.cell? (ad269.add ((x6_3).toNat * 4)) = some (.int .i64 ((rd_T35 t264 x6_3).f0.f0)) ∧ w'.cell? ⟨(ad269.add ((x6_3).toNat * 4)).block, (ad269.add ((x6_3).toNat * 4)).off + 1, none⟩ = some (.int .i64 ((rd_T35 t264 x6_3).f0.f1)) ∧ w'.cell? ⟨(ad269.add ((x6_3).toNat * 4)).block, (ad269.add ((x6_3).toNat * 4)).off + 2, none⟩ = some (.int .i64 ((rd_T35 t264 x6_3).f1.f0)) ∧ w'.cell? ⟨(ad269.add ((x6_3).toNat * 4)).block, (ad269.add ((x6_3).toNat * 4)).off + 3, none⟩ = some (.int .i64 ((rd_T35 t264 x6_3).f1.f1)) ∧ w'.cell? (ad269.add ((x7_5).toNat * 4)) = some (.int .i64 ((rd_T35 t264 x7_5).f0.f0)) ∧ w'.cell? ⟨(ad269.add ((x7_5).toNat * 4)).block, (ad269.add ((x7_5).toNat * 4)).off + 1, none⟩ = some (.int .i64 ((rd_T35 t264 x7_5).f0.f1)) ∧ w'.cell? ⟨(ad269.add ((x7_5).toNat * 4)).block, (ad269.add ((x7_5).toNat * 4)).off + 2, none⟩ = some (.int .i64 ((rd_T35 t264 x7_5).f1.f0)) ∧ w'.cell? ⟨(ad269.add ((x7_5).toNat * 4)).block, (ad269.add ((x7_5).toNat * 4)).off + 3, none⟩ = some (.int .i64 ((rd_T35 t264 x7_5).f1.f1))) (ds := []) #[false, false, false, false, false, false, false, false, false, false, false, false, false, false, false, false, false, false, false, false, false, false, false, false, false, false, false, false, false, false, false, false, false, false, false, false, false, false, false, false, false, false, false, false, false, false, false, false, false, false, false] (by kernel_rfl) rfl rfl ⟨hx269_0, hx269_1, hx269_2, hx269_3, hx270_0, hx270_1, hx270_2, hx270_3, hx274_0, hx274_1, hx274_2, hx274_3, hx275_0, hx275_1, hx275_2, hx275_3, hx279_0, hx279_1, hx279_2, hx279_3, hx280_0, hx280_1, hx280_2, hx280_3, hx284_0, hx284_1, hx284_2, hx284_3, hx285_0, hx285_1, hx285_2, hx285_3⟩ (fun hHeld => ?_); refine with_tabW mapmakerlaw20_NodingClean.tab17 mapmakerlaw20_NodingClean.bits17 (fun HT_ HW_ => ?_)
                       generalize wr.drew = w106 at HO_5 HB hx269_0 hx269_1 hx269_2 hx269_3 hx270_0 hx270_1 hx270_2 hx270_3 hx274_0 hx274_1 hx274_2 hx274_3 hx275_0 hx275_1 hx275_2 hx275_3 hx279_0 hx279_1 hx279_2 hx279_3 hx280_0 hx280_1 hx280_2 hx280_3 hx284_0 hx284_1 hx284_2 hx284_3 hx285_0 hx285_1 hx285_2 hx285_3 hHeld ⊢
                       refine pure_ (i := 0) (N := some 65) (v := ?_) (a' := ?_) (ba 51 1) rfl rfl (any_of HT_.out (by kernel_rfl)) (fun _ _ _ h => h) (Or.inl ⟨by rfl, ?_⟩) ?_ ?_
                       rotate_left
                       ·intro w'
                        go_simp
                        with_reducible rfl
                       rotate_left
                       ·simp only [Act.put, sA, sB, sC, i64_w, i32_w]
                        rfl
                       refine pure_ (i := 1) (N := some 66) (v := ?_) (a' := ?_) (ba 51 3) rfl rfl (any_of HT_.out (by kernel_rfl)) (fun _ _ _ h => h) (Or.inl ⟨by rfl, ?_⟩) ?_ ?_
                       rotate_left
                       ·intro w'
                        go_simp
                        with_reducible rfl
                       rotate_left
                       ·simp only [Act.put, sA, sB, sC, i64_w, i32_w]
                        rfl
                       refine pure_ (i := 2) (N := some 67) (v := ?_) (a' := ?_) (ba 51 7) rfl rfl (any_of HT_.out (by kernel_rfl)) (fun _ _ _ h => h) (Or.inl ⟨by rfl, ?_⟩) ?_ ?_
                       rotate_left
                       ·intro w'
                        go_simp
                        with_reducible rfl
                       rotate_left
                       ·simp only [Act.put, sA, sB, sC, i64_w, i32_w]
                        rfl
                       refine pure_ (i := 3) (N := some 68) (v := ?_) (a' := ?_) (ba 51 15) rfl rfl (any_of HT_.out (by kernel_rfl)) (fun _ _ _ h => h) (Or.inl ⟨by rfl, ?_⟩) ?_ ?_
                       rotate_left
                       ·intro w'
                        go_simp
                        with_reducible rfl
                       rotate_left
                       ·simp only [Act.put, sA, sB, sC, i64_w, i32_w]
                        rfl
                       refine pure_ (i := 5) (N := some 70) (v := ?_) (a' := ?_) (ba 51 47) rfl rfl (any_of HT_.out (by kernel_rfl)) (fun _ _ _ h => h) (Or.inl ⟨by rfl, ?_⟩) ?_ ?_
                       rotate_left
                       ·intro w'
                        go_simp
                        with_reducible rfl
                       rotate_left
                       ·simp only [Act.put, sA, sB, sC, i64_w, i32_w]
                        rfl
                       refine pure_ (i := 6) (N := some 71) (v := ?_) (a' := ?_) (ba 51 111) rfl rfl (any_of HT_.out (by kernel_rfl)) (fun _ _ _ h => h) (Or.inl ⟨by rfl, ?_⟩) ?_ ?_
                       rotate_left
                       ·intro w'
                        go_simp
                        with_reducible rfl
                       rotate_left
                       ·simp only [Act.put, sA, sB, sC, i64_w, i32_w]
                        rfl
                       refine pure_ (i := 7) (N := some 72) (v := ?_) (a' := ?_) (ba 51 239) rfl rfl (any_of HT_.out (by kernel_rfl)) (fun _ _ _ h => h) (Or.inl ⟨by rfl, ?_⟩) ?_ ?_
                       rotate_left
                       ·intro w'
                        go_simp
                        with_reducible rfl
                       rotate_left
                       ·simp only [Act.put, sA, sB, sC, i64_w, i32_w]
                        rfl
                       refine pure_ (i := 8) (N := some 73) (v := ?_) (a' := ?_) (ba 51 495) rfl rfl (any_of HT_.out (by kernel_rfl)) (fun _ _ _ h => h) (Or.inl ⟨by rfl, ?_⟩) ?_ ?_
                       rotate_left
                       ·intro w'
                        go_simp
                        with_reducible rfl
                       rotate_left
                       ·simp only [Act.put, sA, sB, sC, i64_w, i32_w]
                        rfl
                       refine take_ (i := 4) (N := some 69) (v := ?_) (a' := ?_) (ba 51 511) rfl rfl (take_ofW HT_.out HW_.out (by kernel_rfl)) (fun _ _ _ h => h) (Or.inl ⟨by rfl, ?_⟩) hHeld ?_ ?_
                       rotate_left
                       ·rintro w' ⟨s0, s1, s2, s3, s4, s5, s6, s7, s8, s9, s10, s11, s12, s13, s14, s15, s16, s17, s18, s19, s20, s21, s22, s23, s24, s25, s26, s27, s28, s29, s30, s31⟩
                        go_simp
                        with_reducible rfl
                       rotate_left
                       ·simp only [Act.put, sA, sB, sC, i64_w, i32_w]
                        rfl
                       refine take_ (i := 9) (N := some 74) (v := ?_) (a' := ?_) (ba 51 1023) rfl rfl (take_ofW HT_.out HW_.out (by kernel_rfl)) (fun _ _ _ h => h) (Or.inl ⟨by rfl, ?_⟩) hHeld ?_ ?_
                       rotate_left
                       ·rintro w' ⟨s0, s1, s2, s3, s4, s5, s6, s7, s8, s9, s10, s11, s12, s13, s14, s15, s16, s17, s18, s19, s20, s21, s22, s23, s24, s25, s26, s27, s28, s29, s30, s31⟩
                        go_simp
                        with_reducible rfl
                       rotate_left
                       ·simp only [Act.put, sA, sB, sC, i64_w, i32_w]
                        rfl
                       refine pure_ (i := 10) (N := some 75) (v := ?_) (a' := ?_) (ba 51 2047) rfl rfl (any_of HT_.out (by kernel_rfl)) (fun _ _ _ h => h) (Or.inl ⟨by rfl, ?_⟩) ?_ ?_
                       rotate_left
                       ·intro w'
                        go_simp
                        with_reducible rfl
                       rotate_left
                       ·simp only [Act.put, sA, sB, sC, i64_w, i32_w]
                        rfl
                       refine pure_ (i := 11) (N := some 76) (v := ?_) (a' := ?_) (ba 51 4095) rfl rfl (any_of HT_.out (by kernel_rfl)) (fun _ _ _ h => h) (Or.inl ⟨by rfl, ?_⟩) ?_ ?_
                       rotate_left
                       ·intro w'
                        go_simp
                        with_reducible rfl
                       rotate_left
                       ·simp only [Act.put, sA, sB, sC, i64_w, i32_w]
                        rfl
                       refine pure_ (i := 12) (N := some 77) (v := ?_) (a' := ?_) (ba 51 8191) rfl rfl (any_of HT_.out (by kernel_rfl)) (fun _ _ _ h => h) (Or.inl ⟨by rfl, ?_⟩) ?_ ?_
                       rotate_left
                       ·intro w'
                        go_simp
                        with_reducible rfl
                       rotate_left
                       ·simp only [Act.put, sA, sB, sC, i64_w, i32_w]
                        rfl
                       refine pure_ (i := 13) (N := some 78) (v := ?_) (a' := ?_) (ba 51 16383) rfl rfl (any_of HT_.out (by kernel_rfl)) (fun _ _ _ h => h) (Or.inl ⟨by rfl, ?_⟩) ?_ ?_
                       rotate_left
                       ·intro w'
                        go_simp
                        with_reducible rfl
                       rotate_left
                       ·simp only [Act.put, sA, sB, sC, i64_w, i32_w]
                        rfl
                       refine pure_ (i := 14) (N := some 79) (v := ?_) (a' := ?_) (ba 51 32767) rfl rfl (any_of HT_.out (by kernel_rfl)) (fun _ _ _ h => h) (Or.inl ⟨by rfl, ?_⟩) ?_ ?_
                       rotate_left
                       ·intro w'
                        go_simp
                        with_reducible rfl
                       rotate_left
                       ·simp only [Act.put, sA, sB, sC, i64_w, i32_w]
                        rfl
                       refine pure_ (i := 15) (N := some 80) (v := ?_) (a' := ?_) (ba 51 65535) rfl rfl (any_of HT_.out (by kernel_rfl)) (fun _ _ _ h => h) (Or.inl ⟨by rfl, ?_⟩) ?_ ?_
                       rotate_left
                       ·intro w'
                        go_simp
                        with_reducible rfl
                       rotate_left
                       ·simp only [Act.put, sA, sB, sC, i64_w, i32_w]
                        rfl
                       refine pure_ (i := 17) (N := some 82) (v := ?_) (a' := ?_) (ba 51 196607) rfl rfl (any_of HT_.out (by kernel_rfl)) (fun _ _ _ h => h) (Or.inl ⟨by rfl, ?_⟩) ?_ ?_
                       rotate_left
                       ·intro w'
                        go_simp
                        with_reducible rfl
                       rotate_left
                       ·simp only [Act.put, sA, sB, sC, i64_w, i32_w]
                        rfl
                       refine pure_ (i := 18) (N := some 83) (v := ?_) (a' := ?_) (ba 51 458751) rfl rfl (any_of HT_.out (by kernel_rfl)) (fun _ _ _ h => h) (Or.inl ⟨by rfl, ?_⟩) ?_ ?_
                       rotate_left
                       ·intro w'
                        go_simp
                        with_reducible rfl
                       rotate_left
                       ·simp only [Act.put, sA, sB, sC, i64_w, i32_w]
                        rfl
                       refine pure_ (i := 19) (N := some 84) (v := ?_) (a' := ?_) (ba 51 983039) rfl rfl (any_of HT_.out (by kernel_rfl)) (fun _ _ _ h => h) (Or.inl ⟨by rfl, ?_⟩) ?_ ?_
                       rotate_left
                       ·intro w'
                        go_simp
                        with_reducible rfl
                       rotate_left
                       ·simp only [Act.put, sA, sB, sC, i64_w, i32_w]
                        rfl
                       refine pure_ (i := 20) (N := some 85) (v := ?_) (a' := ?_) (ba 51 2031615) rfl rfl (any_of HT_.out (by kernel_rfl)) (fun _ _ _ h => h) (Or.inl ⟨by rfl, ?_⟩) ?_ ?_
                       rotate_left
                       ·intro w'
                        go_simp
                        with_reducible rfl
                       rotate_left
                       ·simp only [Act.put, sA, sB, sC, i64_w, i32_w]
                        rfl
                       refine take_ (i := 16) (N := some 81) (v := ?_) (a' := ?_) (ba 51 2097151) rfl rfl (take_ofW HT_.out HW_.out (by kernel_rfl)) (fun _ _ _ h => h) (Or.inl ⟨by rfl, ?_⟩) hHeld ?_ ?_
                       rotate_left
                       ·rintro w' ⟨s0, s1, s2, s3, s4, s5, s6, s7, s8, s9, s10, s11, s12, s13, s14, s15, s16, s17, s18, s19, s20, s21, s22, s23, s24, s25, s26, s27, s28, s29, s30, s31⟩
                        go_simp
                        with_reducible rfl
                       rotate_left
                       ·simp only [Act.put, sA, sB, sC, i64_w, i32_w]
                        rfl
                       refine take_ (i := 21) (N := some 86) (v := ?_) (a' := ?_) (ba 51 4194303) rfl rfl (take_ofW HT_.out HW_.out (by kernel_rfl)) (fun _ _ _ h => h) (Or.inl ⟨by rfl, ?_⟩) hHeld ?_ ?_
                       rotate_left
                       ·rintro w' ⟨s0, s1, s2, s3, s4, s5, s6, s7, s8, s9, s10, s11, s12, s13, s14, s15, s16, s17, s18, s19, s20, s21, s22, s23, s24, s25, s26, s27, s28, s29, s30, s31⟩
                        go_simp
                        with_reducible rfl
                       rotate_left
                       ·simp only [Act.put, sA, sB, sC, i64_w, i32_w]
                        rfl
                       refine pure_ (i := 22) (N := some 87) (v := ?_) (a' := ?_) (ba 51 8388607) rfl rfl (any_of HT_.out (by kernel_rfl)) (fun _ _ _ h => h) (Or.inl ⟨by rfl, ?_⟩) ?_ ?_
                       rotate_left
                       ·intro w'
                        go_simp
                        with_reducible rfl
                       rotate_left
                       ·simp only [Act.put, sA, sB, sC, i64_w, i32_w]
                        rfl
                       refine pure_ (i := 23) (N := some 88) (v := ?_) (a' := ?_) (ba 51 16777215) rfl rfl (any_of HT_.out (by kernel_rfl)) (fun _ _ _ h => h) (Or.inl ⟨by rfl, ?_⟩) ?_ ?_
                       rotate_left
                       ·intro w'
                        go_simp
                        with_reducible rfl
                       rotate_left
                       ·simp only [Act.put, sA, sB, sC, i64_w, i32_w]
                        rfl
                       refine pure_ (i := 24) (N := some 89) (v := ?_) (a' := ?_) (ba 51 33554431) rfl rfl (any_of HT_.out (by kernel_rfl)) (fun _ _ _ h => h) (Or.inl ⟨by rfl, ?_⟩) ?_ ?_
                       rotate_left
                       ·intro w'
                        go_simp
                        with_reducible rfl
                       rotate_left
                       ·simp only [Act.put, sA, sB, sC, i64_w, i32_w]
                        rfl
                       refine pure_ (i := 25) (N := some 90) (v := ?_) (a' := ?_) (ba 51 67108863) rfl rfl (any_of HT_.out (by kernel_rfl)) (fun _ _ _ h => h) (Or.inl ⟨by rfl, ?_⟩) ?_ ?_
                       rotate_left
                       ·intro w'
                        go_simp
                        with_reducible rfl
                       rotate_left
                       ·simp only [Act.put, sA, sB, sC, i64_w, i32_w]
                        rfl
                       refine pure_ (i := 26) (N := some 91) (v := ?_) (a' := ?_) (ba 51 134217727) rfl rfl (any_of HT_.out (by kernel_rfl)) (fun _ _ _ h => h) (Or.inl ⟨by rfl, ?_⟩) ?_ ?_
                       rotate_left
                       ·intro w'
                        go_simp
                        with_reducible rfl
                       rotate_left
                       ·simp only [Act.put, sA, sB, sC, i64_w, i32_w]
                        rfl
                       refine pure_ (i := 27) (N := some 92) (v := ?_) (a' := ?_) (ba 51 268435455) rfl rfl (any_of HT_.out (by kernel_rfl)) (fun _ _ _ h => h) (Or.inl ⟨by rfl, ?_⟩) ?_ ?_
                       rotate_left
                       ·intro w'
                        go_simp
                        with_reducible rfl
                       rotate_left
                       ·simp only [Act.put, sA, sB, sC, i64_w, i32_w]
                        rfl
                       refine pure_ (i := 28) (N := some 93) (v := ?_) (a' := ?_) (ba 51 536870911) rfl rfl (any_of HT_.out (by kernel_rfl)) (fun _ _ _ h => h) (Or.inl ⟨by rfl, ?_⟩) ?_ ?_
                       rotate_left
                       ·intro w'
                        go_simp
                        with_reducible rfl
                       rotate_left
                       ·simp only [Act.put, sA, sB, sC, i64_w, i32_w]
                        rfl
                       refine pure_ (i := 30) (N := some 95) (v := ?_) (a' := ?_) (ba 51 1610612735) rfl rfl (any_of HT_.out (by kernel_rfl)) (fun _ _ _ h => h) (Or.inl ⟨by rfl, ?_⟩) ?_ ?_
                       rotate_left
                       ·intro w'
                        go_simp
                        with_reducible rfl
                       rotate_left
                       ·simp only [Act.put, sA, sB, sC, i64_w, i32_w]
                        rfl
                       refine pure_ (i := 31) (N := some 96) (v := ?_) (a' := ?_) (ba 51 3758096383) rfl rfl (any_of HT_.out (by kernel_rfl)) (fun _ _ _ h => h) (Or.inl ⟨by rfl, ?_⟩) ?_ ?_
                       rotate_left
                       ·intro w'
                        go_simp
                        with_reducible rfl
                       rotate_left
                       ·simp only [Act.put, sA, sB, sC, i64_w, i32_w]
                        rfl
                       refine pure_ (i := 32) (N := some 97) (v := ?_) (a' := ?_) (ba 51 8053063679) rfl rfl (any_of HT_.out (by kernel_rfl)) (fun _ _ _ h => h) (Or.inl ⟨by rfl, ?_⟩) ?_ ?_
                       rotate_left
                       ·intro w'
                        go_simp
                        with_reducible rfl
                       rotate_left
                       ·simp only [Act.put, sA, sB, sC, i64_w, i32_w]
                        rfl
                       refine pure_ (i := 33) (N := some 98) (v := ?_) (a' := ?_) (ba 51 16642998271) rfl rfl (any_of HT_.out (by kernel_rfl)) (fun _ _ _ h => h) (Or.inl ⟨by rfl, ?_⟩) ?_ ?_
                       rotate_left
                       ·intro w'
                        go_simp
                        with_reducible rfl
                       rotate_left
                       ·simp only [Act.put, sA, sB, sC, i64_w, i32_w]
                        rfl
                       refine take_ (i := 29) (N := some 94) (v := ?_) (a' := ?_) (ba 51 17179869183) rfl rfl (take_ofW HT_.out HW_.out (by kernel_rfl)) (fun _ _ _ h => h) (Or.inl ⟨by rfl, ?_⟩) hHeld ?_ ?_
                       rotate_left
                       ·rintro w' ⟨s0, s1, s2, s3, s4, s5, s6, s7, s8, s9, s10, s11, s12, s13, s14, s15, s16, s17, s18, s19, s20, s21, s22, s23, s24, s25, s26, s27, s28, s29, s30, s31⟩
                        go_simp
                        with_reducible rfl
                       rotate_left
                       ·simp only [Act.put, sA, sB, sC, i64_w, i32_w]
                        rfl
                       refine take_ (i := 34) (N := some 99) (v := ?_) (a' := ?_) (ba 51 34359738367) rfl rfl (take_ofW HT_.out HW_.out (by kernel_rfl)) (fun _ _ _ h => h) (Or.inl ⟨by rfl, ?_⟩) hHeld ?_ ?_
                       rotate_left
                       ·rintro w' ⟨s0, s1, s2, s3, s4, s5, s6, s7, s8, s9, s10, s11, s12, s13, s14, s15, s16, s17, s18, s19, s20, s21, s22, s23, s24, s25, s26, s27, s28, s29, s30, s31⟩
                        go_simp
                        with_reducible rfl
                       rotate_left
                       ·simp only [Act.put, sA, sB, sC, i64_w, i32_w]
                        rfl
                       refine pure_ (i := 35) (N := some 100) (v := ?_) (a' := ?_) (ba 51 68719476735) rfl rfl (any_of HT_.out (by kernel_rfl)) (fun _ _ _ h => h) (Or.inl ⟨by rfl, ?_⟩) ?_ ?_
                       rotate_left
                       ·intro w'
                        go_simp
                        with_reducible rfl
                       rotate_left
                       ·simp only [Act.put, sA, sB, sC, i64_w, i32_w]
                        rfl
                       refine pure_ (i := 36) (N := some 101) (v := ?_) (a' := ?_) (ba 51 137438953471) rfl rfl (any_of HT_.out (by kernel_rfl)) (fun _ _ _ h => h) (Or.inl ⟨by rfl, ?_⟩) ?_ ?_
                       rotate_left
                       ·intro w'
                        go_simp
                        with_reducible rfl
                       rotate_left
                       ·simp only [Act.put, sA, sB, sC, i64_w, i32_w]
                        rfl
                       refine pure_ (i := 37) (N := some 102) (v := ?_) (a' := ?_) (ba 51 274877906943) rfl rfl (any_of HT_.out (by kernel_rfl)) (fun _ _ _ h => h) (Or.inl ⟨by rfl, ?_⟩) ?_ ?_
                       rotate_left
                       ·intro w'
                        go_simp
                        with_reducible rfl
                       rotate_left
                       ·simp only [Act.put, sA, sB, sC, i64_w, i32_w]
                        rfl
                       refine pure_ (i := 38) (N := some 103) (v := ?_) (a' := ?_) (ba 51 549755813887) rfl rfl (any_of HT_.out (by kernel_rfl)) (fun _ _ _ h => h) (Or.inl ⟨by rfl, ?_⟩) ?_ ?_
                       rotate_left
                       ·intro w'
                        go_simp
                        with_reducible rfl
                       rotate_left
                       ·simp only [Act.put, sA, sB, sC, i64_w, i32_w]
                        rfl
                       refine pure_ (i := 39) (N := some 104) (v := ?_) (a' := ?_) (ba 51 1099511627775) rfl rfl (any_of HT_.out (by kernel_rfl)) (fun _ _ _ h => h) (Or.inl ⟨by rfl, ?_⟩) ?_ ?_
                       rotate_left
                       ·intro w'
                        go_simp
                        with_reducible rfl
                       rotate_left
                       ·simp only [Act.put, sA, sB, sC, i64_w, i32_w]
                        rfl
                       refine pure_ (i := 40) (N := some 105) (v := ?_) (a' := ?_) (ba 51 2199023255551) rfl rfl (any_of HT_.out (by kernel_rfl)) (fun _ _ _ h => h) (Or.inl ⟨by rfl, ?_⟩) ?_ ?_
                       rotate_left
                       ·intro w'
                        go_simp
                        with_reducible rfl
                       rotate_left
                       ·simp only [Act.put, sA, sB, sC, i64_w, i32_w]
                        rfl
                       refine pure_ (i := 41) (N := some 106) (v := ?_) (a' := ?_) (ba 51 4398046511103) rfl rfl (any_of HT_.out (by kernel_rfl)) (fun _ _ _ h => h) (Or.inl ⟨by rfl, ?_⟩) ?_ ?_
                       rotate_left
                       ·intro w'
                        go_simp
                        with_reducible rfl
                       rotate_left
                       ·simp only [Act.put, sA, sB, sC, i64_w, i32_w]
                        rfl
                       refine pure_ (i := 43) (N := some 108) (v := ?_) (a' := ?_) (ba 51 13194139533311) rfl rfl (any_of HT_.out (by kernel_rfl)) (fun _ _ _ h => h) (Or.inl ⟨by rfl, ?_⟩) ?_ ?_
                       rotate_left
                       ·intro w'
                        go_simp
                        with_reducible rfl
                       rotate_left
                       ·simp only [Act.put, sA, sB, sC, i64_w, i32_w]
                        rfl
                       refine pure_ (i := 44) (N := some 109) (v := ?_) (a' := ?_) (ba 51 30786325577727) rfl rfl (any_of HT_.out (by kernel_rfl)) (fun _ _ _ h => h) (Or.inl ⟨by rfl, ?_⟩) ?_ ?_
                       rotate_left
                       ·intro w'
                        go_simp
                        with_reducible rfl
                       rotate_left
                       ·simp only [Act.put, sA, sB, sC, i64_w, i32_w]
                        rfl
                       refine pure_ (i := 45) (N := some 110) (v := ?_) (a' := ?_) (ba 51 65970697666559) rfl rfl (any_of HT_.out (by kernel_rfl)) (fun _ _ _ h => h) (Or.inl ⟨by rfl, ?_⟩) ?_ ?_
                       rotate_left
                       ·intro w'
                        go_simp
                        with_reducible rfl
                       rotate_left
                       ·simp only [Act.put, sA, sB, sC, i64_w, i32_w]
                        rfl
                       refine pure_ (i := 46) (N := some 111) (v := ?_) (a' := ?_) (ba 51 136339441844223) rfl rfl (any_of HT_.out (by kernel_rfl)) (fun _ _ _ h => h) (Or.inl ⟨by rfl, ?_⟩) ?_ ?_
                       rotate_left
                       ·intro w'
                        go_simp
                        with_reducible rfl
                       rotate_left
                       ·simp only [Act.put, sA, sB, sC, i64_w, i32_w]
                        rfl
                       refine take_ (i := 42) (N := some 107) (v := ?_) (a' := ?_) (ba 51 140737488355327) rfl rfl (take_ofW HT_.out HW_.out (by kernel_rfl)) (fun _ _ _ h => h) (Or.inl ⟨by rfl, ?_⟩) hHeld ?_ ?_
                       rotate_left
                       ·rintro w' ⟨s0, s1, s2, s3, s4, s5, s6, s7, s8, s9, s10, s11, s12, s13, s14, s15, s16, s17, s18, s19, s20, s21, s22, s23, s24, s25, s26, s27, s28, s29, s30, s31⟩
                        go_simp
                        with_reducible rfl
                       rotate_left
                       ·simp only [Act.put, sA, sB, sC, i64_w, i32_w]
                        rfl
                       refine take_ (i := 47) (N := some 112) (v := ?_) (a' := ?_) (ba 51 281474976710655) rfl rfl (take_ofW HT_.out HW_.out (by kernel_rfl)) (fun _ _ _ h => h) (Or.inl ⟨by rfl, ?_⟩) hHeld ?_ ?_
                       rotate_left
                       ·rintro w' ⟨s0, s1, s2, s3, s4, s5, s6, s7, s8, s9, s10, s11, s12, s13, s14, s15, s16, s17, s18, s19, s20, s21, s22, s23, s24, s25, s26, s27, s28, s29, s30, s31⟩
                        go_simp
                        with_reducible rfl
                       rotate_left
                       ·simp only [Act.put, sA, sB, sC, i64_w, i32_w]
                        rfl
                       refine pure_ (i := 48) (N := some 113) (v := ?_) (a' := ?_) (ba 51 562949953421311) rfl rfl (any_of HT_.out (by kernel_rfl)) (fun _ _ _ h => h) (Or.inl ⟨by rfl, ?_⟩) ?_ ?_
                       rotate_left
                       ·intro w'
                        go_simp
                        with_reducible rfl
                       rotate_left
                       ·simp only [Act.put, sA, sB, sC, i64_w, i32_w]
                        rfl
                       refine pure_ (i := 49) (N := some 114) (v := ?_) (a' := ?_) (ba 51 1125899906842623) rfl rfl (any_of HT_.out (by kernel_rfl)) (fun _ _ _ h => h) (Or.inl ⟨by rfl, ?_⟩) ?_ ?_
                       rotate_left
                       ·intro w'
                        go_simp
                        with_reducible rfl
                       rotate_left
                       ·simp only [Act.put, sA, sB, sC, i64_w, i32_w]
                        rfl
                       refine pure_ (i := 50) (N := some 8) (v := ?_) (a' := ?_) (ba 51 2251799813685247) rfl rfl (any_of HT_.out (by kernel_rfl)) (fun _ _ _ h => h) (Or.inl ⟨by rfl, ?_⟩) ?_ ?_
                       rotate_left
                       ·intro w'
                        go_simp
                        with_reducible rfl
                       rotate_left
                       ·simp only [Act.put, sA, sB, sC, i64_w, i32_w]
                        rfl
                       refine done_ (done_of HT_.out (by kernel_rfl)) ?_
                       try go_wp2
                       replace HO_5 := aM (rD HO_5.out)
                       replace HB := aM (bD HB.out)
                       have p286 : 0 ≤ (x6_3 : Int) := of_decide_eq_true (by first | (with_reducible assumption) | assumption)
                       have q286 : x6_3 < (t264.length : Int) := of_decide_eq_true (by first | (with_reducible assumption) | assumption)
                       obtain ⟨ad286, e286, hx286_0, hx286_1, hx286_2, hx286_3⟩ := at_T35 (rR HO_5.out).2.2 x6_3 p286 q286
                       obtain rfl : ad269 = ad286 := (by injection e286)
                       replace p286 := eq_true p286
                       replace q286 := eq_true q286
                       have p287 : 0 ≤ (x7_5 : Int) := of_decide_eq_true (by first | (with_reducible assumption) | assumption)
                       have q287 : x7_5 < (t264.length : Int) := of_decide_eq_true (by first | (with_reducible assumption) | assumption)
                       obtain ⟨ad287, e287, hx287_0, hx287_1, hx287_2, hx287_3⟩ := at_T35 (rR HO_5.out).2.2 x7_5 p287 q287
                       obtain rfl : ad269 = ad287 := (by injection e287)
                       replace p287 := eq_true p287
                       replace q287 := eq_true q287
                       refine start_ (n := 10) (S := fun w' => w'.cell? (ad269.add ((x6_3).toNat * 4)) = some (.int .i64 ((rd_T35 t264 x6_3).f0.f0)) ∧ w'.cell? ⟨(ad269.add ((x6_3).toNat * 4)).block, (ad269.add ((x6_3).toNat * 4)).off + 1, none⟩ = some (.int .i64 ((rd_T35 t264 x6_3).f0.f1)) ∧ w'.cell? ⟨(ad269.add ((x6_3).toNat * 4)).block, (ad269.add ((x6_3).toNat * 4)).off + 2, none⟩ = some (.int .i64 ((rd_T35 t264 x6_3).f1.f0)) ∧ w'.cell? ⟨(ad269.add ((x6_3).toNat * 4)).block, (ad269.add ((x6_3).toNat * 4)).off + 3, none⟩ = some (.int .i64 ((rd_T35 t264 x6_3).f1.f1)) ∧ w'.cell? (ad269.add ((x7_5).toNat * 4)) = some (.int .i64 ((rd_T35 t264 x7_5).f0.f0)) ∧ w'.cell? ⟨(ad269.add ((x7_5).toNat * 4)).block, (ad269.add ((x7_5).toNat * 4)).off + 1, none⟩ = some (.int .i64 ((rd_T35 t264 x7_5).f0.f1)) ∧ w'.cell? ⟨(ad269.add ((x7_5).toNat * 4)).block, (ad269.add ((x7_5).toNat * 4)).off + 2, none⟩ = some (.int .i64 ((rd_T35 t264 x7_5).f1.f0)) ∧ w'.cell? ⟨(ad269.add ((x7_5).toNat * 4)).block, (ad269.add ((x7_5).toNat * 4)).off + 3, none⟩ = some (.int .i64 ((rd_T35 t264 x7_5).f1.f1))) (ds := []) #[false, false, false, false, false, false, false, false, false, false] (by kernel_rfl) rfl rfl ⟨hx286_0, hx286_1, hx286_2, hx286_3, hx287_0, hx287_1, hx287_2, hx287_3⟩ (fun hHeld => ?_); refine with_tabW mapmakerlaw20_NodingClean.tab18 mapmakerlaw20_NodingClean.bits18 (fun HT_ HW_ => ?_)
                       generalize w106.drew = w108 at HO_5 HB hx286_0 hx286_1 hx286_2 hx286_3 hx287_0 hx287_1 hx287_2 hx287_3 hHeld ⊢
                       refine pure_ (i := 0) (N := some 115) (v := ?_) (a' := ?_) (ba 10 1) rfl rfl (any_of HT_.out (by kernel_rfl)) (fun _ _ _ h => h) (Or.inl ⟨by rfl, ?_⟩) ?_ ?_
                       rotate_left
                       ·intro w'
                        go_simp
                        with_reducible rfl
                       rotate_left
                       ·simp only [Act.put, sA, sB, sC, i64_w, i32_w]
                        rfl
                       refine pure_ (i := 1) (N := some 116) (v := ?_) (a' := ?_) (ba 10 3) rfl rfl (any_of HT_.out (by kernel_rfl)) (fun _ _ _ h => h) (Or.inl ⟨by rfl, ?_⟩) ?_ ?_
                       rotate_left
                       ·intro w'
                        go_simp
                        with_reducible rfl
                       rotate_left
                       ·simp only [Act.put, sA, sB, sC, i64_w, i32_w]
                        rfl
                       refine pure_ (i := 2) (N := some 117) (v := ?_) (a' := ?_) (ba 10 7) rfl rfl (any_of HT_.out (by kernel_rfl)) (fun _ _ _ h => h) (Or.inl ⟨by rfl, ?_⟩) ?_ ?_
                       rotate_left
                       ·intro w'
                        go_simp
                        with_reducible rfl
                       rotate_left
                       ·simp only [Act.put, sA, sB, sC, i64_w, i32_w]
                        rfl
                       refine pure_ (i := 4) (N := some 119) (v := ?_) (a' := ?_) (ba 10 23) rfl rfl (any_of HT_.out (by kernel_rfl)) (fun _ _ _ h => h) (Or.inl ⟨by rfl, ?_⟩) ?_ ?_
                       rotate_left
                       ·intro w'
                        go_simp
                        with_reducible rfl
                       rotate_left
                       ·simp only [Act.put, sA, sB, sC, i64_w, i32_w]
                        rfl
                       refine pure_ (i := 5) (N := some 120) (v := ?_) (a' := ?_) (ba 10 55) rfl rfl (any_of HT_.out (by kernel_rfl)) (fun _ _ _ h => h) (Or.inl ⟨by rfl, ?_⟩) ?_ ?_
                       rotate_left
                       ·intro w'
                        go_simp
                        with_reducible rfl
                       rotate_left
                       ·simp only [Act.put, sA, sB, sC, i64_w, i32_w]
                        rfl
                       refine pure_ (i := 6) (N := some 121) (v := ?_) (a' := ?_) (ba 10 119) rfl rfl (any_of HT_.out (by kernel_rfl)) (fun _ _ _ h => h) (Or.inl ⟨by rfl, ?_⟩) ?_ ?_
                       rotate_left
                       ·intro w'
                        go_simp
                        with_reducible rfl
                       rotate_left
                       ·simp only [Act.put, sA, sB, sC, i64_w, i32_w]
                        rfl
                       refine take_ (i := 3) (N := some 118) (v := ?_) (a' := ?_) (ba 10 127) rfl rfl (take_ofW HT_.out HW_.out (by kernel_rfl)) (fun _ _ _ h => h) (Or.inl ⟨by rfl, ?_⟩) hHeld ?_ ?_
                       rotate_left
                       ·rintro w' ⟨s0, s1, s2, s3, s4, s5, s6, s7⟩
                        go_simp
                        with_reducible rfl
                       rotate_left
                       ·simp only [Act.put, sA, sB, sC, i64_w, i32_w]
                        rfl
                       refine take_ (i := 7) (N := some 122) (v := ?_) (a' := ?_) (ba 10 255) rfl rfl (take_ofW HT_.out HW_.out (by kernel_rfl)) (fun _ _ _ h => h) (Or.inl ⟨by rfl, ?_⟩) hHeld ?_ ?_
                       rotate_left
                       ·rintro w' ⟨s0, s1, s2, s3, s4, s5, s6, s7⟩
                        go_simp
                        with_reducible rfl
                       rotate_left
                       ·simp only [Act.put, sA, sB, sC, i64_w, i32_w]
                        rfl
                       refine one_ (i := 8) (N := some 123) (ba 10 511) rfl rfl (one_of HT_.out (by kernel_rfl)) (by decide) (fun K hK => ?_)
                       refine goes_ Try.func27 (by kernel_rfl) rfl #[.agg #[.int .i64 ((rd_T35 t264 x6_3).f0.f0), .int .i64 ((rd_T35 t264 x6_3).f0.f1), .int .i64 ((rd_T35 t264 x6_3).f1.f0), .int .i64 ((rd_T35 t264 x6_3).f1.f1)], .agg #[.int .i64 ((rd_T35 t264 x7_5).f0.f0), .int .i64 ((rd_T35 t264 x7_5).f0.f1), .int .i64 ((rd_T35 t264 x7_5).f1.f0), .int .i64 ((rd_T35 t264 x7_5).f1.f1)]] (by rfl) rfl rfl (by (try simp only [List.map_toArray, List.map_cons, List.map_nil]); first | done | rfl | (simp only [List.length_drop, List.length_take]; rfl)) ?_
                       with_reducible refine (mapmakerref09_Relate.calls k5 ((rd_T35 t264 x6_3).f0.f0) ((rd_T35 t264 x6_3).f0.f1) ((rd_T35 t264 x6_3).f1.f0) ((rd_T35 t264 x6_3).f1.f1) ((rd_T35 t264 x7_5).f0.f0) ((rd_T35 t264 x7_5).f0.f1) ((rd_T35 t264 x7_5).f1.f0) ((rd_T35 t264 x7_5).f1.f1) t288 _ A90.out).mono ?_
                       rintro e w109 ⟨rfl, hb⟩
                       obtain ⟨q0, q1, q2, q3, q4, q5, q6, q7⟩ := hHeld
                       have HS_ := And.intro (hs hb q0) <| And.intro (hs hb q1) <| And.intro (hs hb q2) <| And.intro (hs hb q3) <| And.intro (hs hb q4) <| And.intro (hs hb q5) <| And.intro (hs hb q6) <| hs hb q7
                       refine ⟨_, rfl, ?_⟩
                       replace HO_5 := aM (rB (rl HO_5) hb)
                       replace HB := aM (bS (bl) hb)
                       (try clear hb)
                       (try clear hb2)
                       (try clear hk)
                       (try clear hi)
                       refine hK.out _ _ HS_ (fun hHeld => ?_)
                       clear hK K
                       refine norm_ (a' := ?_) ?_ ?_
                       rotate_left
                       ·show Act.put _ (some 123) _ = _
                        simp only [Act.put, sA, sB, sC, i64_w, i32_w]
                        rfl
                       refine pure_ (i := 9) (N := some 9) (v := ?_) (a' := ?_) (ba 10 1023) rfl rfl (any_of HT_.out (by kernel_rfl)) (fun _ _ _ h => h) (Or.inl ⟨by rfl, ?_⟩) ?_ ?_
                       rotate_left
                       ·intro w'
                        go_simp
                        with_reducible rfl
                       rotate_left
                       ·simp only [Act.put, sA, sB, sC, i64_w, i32_w]
                        rfl
                       refine done_ (done_of HT_.out (by kernel_rfl)) ?_
                       have H := HZ.out
                       clear HZ
                       by_cases q1 : t288 > 1
                       ·rw [if_pos q1] at H
                        have q1b0 : decide (1 < t288) = true := decide_eq_true q1
                        clear q1
                        obtain rfl := Option.some.inj H
                        try go_wp2
                        go_ret
                        exact ⟨by first | rfl | (simp [errW_none, errW_some] <;> rfl) | (simp [*, errW_none, errW_some] <;> rfl), bl⟩
                       ·rw [if_neg q1] at H
                        have q1b0 : decide (1 < t288) = false := decide_eq_false q1
                        clear q1
                        by_cases q2 : t288 = 1
                        ·rw [if_pos q2] at H
                         have q2b0 : (t288 == 1) = true := beq_iff_eq.mpr q2
                         have q2b1 : (t288 != 1) = false := bne_eq_false_iff_eq.mpr q2
                         clear q2
                         by_cases c97 : ((((rd_T35 t264 x6_3).f1.f0) == ((rd_T35 t264 x7_5).f1.f0) && (((rd_T35 t264 x6_3).f1.f1) == ((rd_T35 t264 x7_5).f1.f1)))) = true
                         ·rw [if_pos c97] at H
                          have H' := aM H
                          clear H
                          try go_wp2
                          go_roundg k5
                          case measure => have := HK1.out; have := HJ9.out; have := HK3.out; have := HJ29.out; have := HK5.out; omega
                          case rel => exact ⟨(wrap64 (x7_5 + 1)), (by first | rfl | (simp; done) | (simp [*]; done)), H', ⟨by have := HK1.out; have := HJ9.out; have := HK3.out; have := HJ29.out; have := HK5.out; omega⟩, ⟨by (with_reducible repeat (first | apply rA | apply rN | apply rD)); exact HO_5.out⟩, ⟨bl⟩⟩
                         ·rw [if_neg c97] at H
                          replace c97 := Bool.eq_false_iff.mpr c97
                          obtain rfl := Option.some.inj H
                          try go_wp2
                          go_ret
                          exact ⟨by first | rfl | (simp [errW_none, errW_some] <;> rfl) | (simp [*, errW_none, errW_some] <;> rfl), bl⟩
                        ·rw [if_neg q2] at H
                         have q2b0 : (t288 == 1) = false := beq_eq_false_iff_ne.mpr q2
                         have q2b1 : (t288 != 1) = true := bne_iff_ne.mpr q2
                         have H' := aM H
                         clear H
                         try go_wp2
                         go_roundg k5
                         case measure => have := HK1.out; have := HJ9.out; have := HK3.out; have := HJ29.out; have := HK5.out; omega
                         case rel => exact ⟨(wrap64 (x7_5 + 1)), (by first | rfl | (simp; done) | (simp [*]; done)), H', ⟨by have := HK1.out; have := HJ9.out; have := HK3.out; have := HJ29.out; have := HK5.out; omega⟩, ⟨by (with_reducible repeat (first | apply rA | apply rN | apply rD)); exact HO_5.out⟩, ⟨bl⟩⟩
                   ·rw [if_neg c41] at H
                    exact absurd H (by simp)
                  ·rw [if_neg c40] at H
                   exact absurd H (by simp)
                 ·rw [if_neg c39] at H
                  exact absurd H (by simp)
                ·rw [if_neg c38] at H
                 exact absurd H (by simp)
               ·rw [if_neg c37] at H
                have c37b0 : decide (x7_5 < x6_3) = false := decide_eq_false c37
                clear c37
                have H' := aM H
                clear H
                go_wp2
                go_roundg k5
                case measure => have := HK1.out; have := HJ9.out; have := HK3.out; have := HJ29.out; have := HK5.out; omega
                case rel => exact ⟨(wrap64 (x6_3 + 1)), (by first | rfl | (simp; done) | (simp [*]; done)), H', ⟨by have := HK1.out; have := HJ9.out; have := HK3.out; have := HJ29.out; have := HK5.out; omega⟩, ⟨by (with_reducible repeat (first | apply rA | apply rN | apply rD)); exact HO_5.out⟩, ⟨bl⟩⟩
            ·replace c36 := Bool.eq_false_iff.mpr c36
             subst c36
             have H1 : ((mapmakerlaw20_lives.f kj29).bind fun t268 => (some t268)) = some r := by rw [if_neg (show ¬ (false = true) by decide)] at H; exact H
             clear H
             have H := H1
             clear H1
             replace H := Option.bind_eq_some_iff.mp H
             obtain ⟨t268, A1100, H⟩ := H
             try dsimp only at H
             have A110 := aM A1100
             clear A1100
             obtain rfl := Option.some.inj H
             go_wp2_with (first | ((with_reducible refine gate_callee (f := 9) rfl ?_); refine goesL_ (some 134) rfl rfl Try.func9 (by kernel_rfl) rfl #[] rfl (by (try simp only [List.map_toArray, List.map_cons, List.map_nil]); first | done | rfl | (simp only [List.length_drop, List.length_take]; rfl)) ?_; (with_reducible refine (mapmakerlaw20_lives.calls kj29  t268 _ A110.out).mono ?_); rintro e w111 ⟨rfl, hb⟩; refine ⟨_, rfl, ?_⟩; replace HO_5 := aM (rB (rl HO_5) hb); replace HB := aM (bS (bl) hb); (try clear hb); (try clear hb2); (try clear hk); (try clear hi)))
             go_ret
             exact ⟨by first | rfl | (simp [errW_none, errW_some] <;> rfl) | (simp [*, errW_none, errW_some] <;> rfl), bl⟩
 ·replace c3 := Bool.eq_false_iff.mpr c3
  subst c3
  have H1 : ((mapmakerlaw20_lives.f k).bind fun t249 => (some t249)) = some r := by rw [if_neg (show ¬ (false = true) by decide)] at H; exact H
  clear H
  have H := H1
  clear H1
  replace H := Option.bind_eq_some_iff.mp H
  obtain ⟨t249, A1120, H⟩ := H
  try dsimp only at H
  have A112 := aM A1120
  clear A1120
  obtain rfl := Option.some.inj H
  go_enter Try.func7, Try.ntmps7
  go_wp2_with (first | ((with_reducible refine gate_callee (f := 8) rfl ?_); refine goesL_ (some 11) rfl rfl Try.func8 (by kernel_rfl) rfl #[.slice A0 l0.length c0] rfl (by (try simp only [List.map_toArray, List.map_cons, List.map_nil]); first | done | rfl | (simp only [List.length_drop, List.length_take]; rfl)) ?_; (with_reducible refine (mapmakerlaw20_few.calls _ _ l0 false _ ?side1 ?side2 A2.out).mono ?_); (case side1 => repeat (first | exact HR0.out | (with_reducible refine cA ?_ _) | (with_reducible refine cN ?_ _) | (with_reducible refine cD ?_))); (case side2 => exact HC0.out); rintro e w' ⟨rfl, ⟨nd, rfl⟩⟩; refine ⟨_, rfl, ?_⟩) | ((with_reducible refine gate_callee (f := 9) rfl ?_); refine goesL_ (some 13) rfl rfl Try.func9 (by kernel_rfl) rfl #[] rfl (by (try simp only [List.map_toArray, List.map_cons, List.map_nil]); first | done | rfl | (simp only [List.length_drop, List.length_take]; rfl)) ?_; (with_reducible refine (mapmakerlaw20_lives.calls k  t249 _ A112.out).mono ?_); rintro e w113 ⟨rfl, hb⟩; refine ⟨_, rfl, ?_⟩; replace HB := aM (bS (bl) hb); (try clear hb); (try clear hb2); (try clear hk); (try clear hi)))
  go_ret
  exact ⟨by first | rfl | (simp [errW_none, errW_some] <;> rfl) | (simp [*, errW_none, errW_some] <;> rfl), bl⟩
def wf33 (x : S33) : Prop := (Lit.int .i64 x.f0).wf = true ∧ (Lit.int .i64 x.f1).wf = true
theorem opens33 : Opens Try.prog 33 k33 wf33 := by
 refine Opens.iso (d := (Kd.pair (Kd.int .i64) (Kd.int .i64))) (W := fun x => (Lit.int .i64 x.1).wf = true ∧ (Lit.int .i64 x.2).wf = true) (f := fun x : S33 => (x.f0, x.f1)) (g := fun x => (⟨x.1, x.2⟩ : S33)) ?_ (fun _ => rfl)
 refine Opens.struct Try.underlying33 (by kernel_rfl) ?_
 exact (OpensF.cons rfl (Opens.int Try.underlying3 (by kernel_rfl)) (OpensF.one rfl (Opens.int Try.underlying3 (by kernel_rfl))))
def wf35 (x : S35) : Prop := wf33 x.f0 ∧ wf33 x.f1
theorem opens35 : Opens Try.prog 35 k35 wf35 := by
 refine Opens.iso (d := (Kd.pair k33 k33)) (W := fun x => wf33 x.1 ∧ wf33 x.2) (f := fun x : S35 => (x.f0, x.f1)) (g := fun x => (⟨x.1, x.2⟩ : S35)) ?_ (fun _ => rfl)
 refine Opens.struct Try.underlying35 (by kernel_rfl) ?_
 exact (OpensF.cons rfl opens33 (OpensF.one rfl opens33))
theorem mapmakerlaw20_NodingClean.opens_0 : Opens Try.prog 23 (Kd.slice 35 k35) (fun x => (x.length ≤ maxLen ∧ ∀ y ∈ x, wf35 y)) := (Opens.slice Try.underlying23 (by kernel_rfl) opens35)
def mapmakerlaw20_NodingClean.Pure : Prop := ∀ (l0 : List (S35)), (l0.length ≤ maxLen ∧ ∀ y ∈ l0, wf35 y) → ∃ k, mapmakerlaw20_NodingClean.f k l0 = some true
theorem mapmakerlaw20_NodingClean.walk (P : mapmakerlaw20_NodingClean.Pure) (w : World) (A0 : Option Addr) (c0 : Nat) (l0 : List (S35)) (hr0 : Kd.C k35 w A0 l0.length l0) (hc0 : l0.length ≤ c0) (w0 : (l0.length ≤ maxLen ∧ ∀ y ∈ l0, wf35 y)) :
  Calls Try.prog 7 #[.slice A0 l0.length c0] w fun e w' => e = .returned (.bool true) ∧ Below w.heap.size w w' := by
 obtain ⟨k, h⟩ := P l0 w0
 refine (mapmakerlaw20_NodingClean.calls k A0 c0 l0 true w hr0 hc0 h).mono ?_
 rintro e w' ⟨rfl, hd⟩
 exact ⟨rfl, hd⟩
end Go.Proofs.Ytmejeiddlhjjmaa.PNodingClean
