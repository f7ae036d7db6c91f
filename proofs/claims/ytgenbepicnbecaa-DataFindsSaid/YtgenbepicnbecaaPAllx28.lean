-- out of a driver of this session's prover over the kit's print: Lean checks it
import Derived.Test.YtgenbepicnbecaaPAllx0
import Derived.Test.YtgenbepicnbecaaPAllx5
import Derived.Test.YtgenbepicnbecaaPAllx9
import Derived.Test.YtgenbepicnbecaaPAllx10
import Derived.Test.YtgenbepicnbecaaPAllx12
import Derived.Test.YtgenbepicnbecaaPAllx15
import Derived.Test.YtgenbepicnbecaaPAllx17
import Derived.Test.YtgenbepicnbecaaPAllx19
import Derived.Test.YtgenbepicnbecaaPAllx22
import Derived.Test.YtgenbepicnbecaaPAllx23
import Derived.Test.YtgenbepicnbecaaPAllx24
import Derived.Test.YtgenbepicnbecaaPAllx26
import Derived.Test.YtgenbepicnbecaaPAllx27
namespace Go.Proofs.Ytgenbepicnbecaa.PAll
open Go.Proofs.YtgenbepicnbecaaG Go.Shelf Go.Lib
open Go.RowKit Go.Proofs.YtgenbepicnbecaaW.PrintWords Go.Proofs.YtgenbepicnbecaaW.PrintLast Go.Proofs.YtgenbepicnbecaaW.PrintMore
attribute [local go_sem] max2_int min2_int max_two min_two max_three min_three max_four min_four   -- for this text's walks alone
set_option linter.unusedVariables false
set_option linter.unusedSimpArgs false
mutual
def mapmakerlaw14_DataFinds.j0 : Nat → Bool → List (S39) → List (S45) → List (S51) → Int → Int → Option (Bool)
 | 0, _, _, _, _, _, _ => none
 | k + 1, x43, x420000, x420001, x420002, x421000, x421001 => if x43 = true then (some false) else ((data_Way.f x420000 x420001 x420002 x421001).bind fun bt440 => ((mapmakerref14_Way.f k x420000 x420001 x420002 x421001).bind fun bt449 => (if (bt440.2.2.2 != bt449.2.2.2) = true then (mapmakerlaw14_DataFinds.j1 k true x420000 x420001 x420002 x421000 x421001) else ((mapmakerref14_SameWay.f k bt440.1 bt440.2.1 bt440.2.2.1 bt449.1 bt449.2.1 bt449.2.2.1).bind fun t458 => (mapmakerlaw14_DataFinds.j1 k (!t458) x420000 x420001 x420002 x421000 x421001)))))
def mapmakerlaw14_DataFinds.j1 : Nat → Bool → List (S39) → List (S45) → List (S51) → Int → Int → Option (Bool)
 | 0, _, _, _, _, _, _ => none
 | k + 1, x66, x420000, x420001, x420002, x421000, x421001 => if x66 = true then (some false) else ((data_Rel.f x420000 x420001 x420002 x421001).bind fun bt459 => ((mapmakerref14_Rel.f k x420000 x420001 x420002 x421001).bind fun bt468 => (if (bt459.2.2.2 != bt468.2.2.2) = true then (mapmakerlaw14_DataFinds.j2 k true x420000 x420001 x420002 x421000 x421001) else ((mapmakerref14_SameRel.f k bt459.1 bt459.2.1 bt459.2.2.1 bt468.1 bt468.2.1 bt468.2.2.1).bind fun t477 => (mapmakerlaw14_DataFinds.j2 k (!t477) x420000 x420001 x420002 x421000 x421001)))))
def mapmakerlaw14_DataFinds.j2 : Nat → Bool → List (S39) → List (S45) → List (S51) → Int → Int → Option (Bool)
 | 0, _, _, _, _, _, _ => none
 | k + 1, x89, x420000, x420001, x420002, x421000, x421001 => if x89 = true then (some false) else ((data_Has.f k x420000 x420001 x420002 x421000 x421001).bind fun t478 => ((mapmakerref14_Has.f k x420000 x420001 x420002 x421000 x421001).bind fun t479 => (if (t478 == t479) = true then ((data_Users.f k x420000 x420001 x420002 x421000 x421001).bind fun t480 => ((mapmakerref14_Users.f k x420000 x420001 x420002 x421000 x421001).bind fun t483 => ((mapmakerref14_SameRefs.f k t480 t483).bind fun t486 => (if t486 = true then ((data_Refs.f k x420000 x420001 x420002).bind fun t487 => ((mapmakerref14_Refs.f k x420000 x420001 x420002).bind fun t490 => ((mapmakerref14_SameRefs.f k t487 t490).bind fun t493 => (if t493 = true then ((data_Tags.f x420000 x420001 x420002 x421000 x421001).bind fun t494 => ((mapmakerref14_Tags.f k x420000 x420001 x420002 x421000 x421001).bind fun t497 => ((mapmakerref14_SameTags.f k t494 t497).bind fun t500 => (if t500 = true then ((mapmakerlaw14_lives.f k).bind fun t501 => (some t501)) else (some false))))) else (some false))))) else (some false))))) else (some false))))
end
def mapmakerlaw14_DataFinds.f (k : Nat) (l0_0 : List (S39)) (l0_1 : List (S45)) (l0_2 : List (S51)) (a1_0 : Int) (a1_1 : Int) : Option (Bool) := (mapmakerref14_Few.f k l0_0 l0_1 l0_2 600).bind fun t421 => (if t421 = true then ((data_Node.f l0_0 l0_1 l0_2 a1_1).bind fun bt423 => ((mapmakerref14_Node.f k l0_0 l0_1 l0_2 a1_1).bind fun bt431 => (if (bt423.2.2.2.2 != bt431.2.2.2.2) = true then (mapmakerlaw14_DataFinds.j0 k true l0_0 l0_1 l0_2 a1_0 a1_1) else ((mapmakerref14_SameNode.f k bt423.1 bt423.2.1 bt423.2.2.1 bt423.2.2.2.1 bt431.1 bt431.2.1 bt431.2.2.1 bt431.2.2.2.1).bind fun t439 => (mapmakerlaw14_DataFinds.j0 k (!t439) l0_0 l0_1 l0_2 a1_0 a1_1))))) else ((mapmakerlaw14_lives.f k).bind fun t422 => (some t422)))
theorem mapmakerlaw14_DataFinds.mono_l : ∀ k, (∀ y0 y1 y2 y3 y4 y5, LeO (mapmakerlaw14_DataFinds.j0 k y0 y1 y2 y3 y4 y5) (mapmakerlaw14_DataFinds.j0 (k + 1) y0 y1 y2 y3 y4 y5)) ∧ (∀ y0 y1 y2 y3 y4 y5, LeO (mapmakerlaw14_DataFinds.j1 k y0 y1 y2 y3 y4 y5) (mapmakerlaw14_DataFinds.j1 (k + 1) y0 y1 y2 y3 y4 y5)) ∧ (∀ y0 y1 y2 y3 y4 y5, LeO (mapmakerlaw14_DataFinds.j2 k y0 y1 y2 y3 y4 y5) (mapmakerlaw14_DataFinds.j2 (k + 1) y0 y1 y2 y3 y4 y5))
 | 0 => ⟨fun _ _ _ _ _ _ r h => by simp [mapmakerlaw14_DataFinds.j0] at h, fun _ _ _ _ _ _ r h => by simp [mapmakerlaw14_DataFinds.j1] at h, fun _ _ _ _ _ _ r h => by simp [mapmakerlaw14_DataFinds.j2] at h⟩
 | k + 1 => by
  obtain ⟨ih0, ih1, ih2⟩ := mapmakerlaw14_DataFinds.mono_l k
  refine ⟨?_, ?_, ?_⟩
  ·intro y0 y1 y2 y3 y4 y5
   unfold mapmakerlaw14_DataFinds.j0
   repeat' first
   | (with_reducible exact ih0 _ _ _ _ _ _)
   | (with_reducible exact ih1 _ _ _ _ _ _)
   | (with_reducible exact ih2 _ _ _ _ _ _)
   | (with_reducible exact data_Has.mono _ _ _ _ _ _)
   | (with_reducible exact data_Refs.mono _ _ _ _)
   | (with_reducible exact data_Users.mono _ _ _ _ _ _)
   | (with_reducible exact mapmakerlaw14_lives.mono _)
   | (with_reducible exact mapmakerref14_Few.mono _ _ _ _ _)
   | (with_reducible exact mapmakerref14_Has.mono _ _ _ _ _ _)
   | (with_reducible exact mapmakerref14_Node.mono _ _ _ _ _)
   | (with_reducible exact mapmakerref14_Refs.mono _ _ _ _)
   | (with_reducible exact mapmakerref14_Rel.mono _ _ _ _ _)
   | (with_reducible exact mapmakerref14_SameNode.mono _ _ _ _ _ _ _ _ _)
   | (with_reducible exact mapmakerref14_SameRefs.mono _ _ _)
   | (with_reducible exact mapmakerref14_SameRel.mono _ _ _ _ _ _ _)
   | (with_reducible exact mapmakerref14_SameTags.mono _ _ _)
   | (with_reducible exact mapmakerref14_SameWay.mono _ _ _ _ _ _ _)
   | (with_reducible exact mapmakerref14_Tags.mono _ _ _ _ _ _)
   | (with_reducible exact mapmakerref14_Users.mono _ _ _ _ _ _)
   | (with_reducible exact mapmakerref14_Way.mono _ _ _ _ _)
   | (with_reducible exact LeO.refl _)
   | (with_reducible exact LeO.none _)
   | (with_reducible refine LeO.ite ?_ ?_)
   | (with_reducible refine LeO.bind ?_ (fun _ => ?_))
   | exact ih0 _ _ _ _ _ _
   | exact ih1 _ _ _ _ _ _
   | exact ih2 _ _ _ _ _ _
   | exact data_Has.mono _ _ _ _ _ _
   | exact data_Refs.mono _ _ _ _
   | exact data_Users.mono _ _ _ _ _ _
   | exact mapmakerlaw14_lives.mono _
   | exact mapmakerref14_Few.mono _ _ _ _ _
   | exact mapmakerref14_Has.mono _ _ _ _ _ _
   | exact mapmakerref14_Node.mono _ _ _ _ _
   | exact mapmakerref14_Refs.mono _ _ _ _
   | exact mapmakerref14_Rel.mono _ _ _ _ _
   | exact mapmakerref14_SameNode.mono _ _ _ _ _ _ _ _ _
   | exact mapmakerref14_SameRefs.mono _ _ _
   | exact mapmakerref14_SameRel.mono _ _ _ _ _ _ _
   | exact mapmakerref14_SameTags.mono _ _ _
   | exact mapmakerref14_SameWay.mono _ _ _ _ _ _ _
   | exact mapmakerref14_Tags.mono _ _ _ _ _ _
   | exact mapmakerref14_Users.mono _ _ _ _ _ _
   | exact mapmakerref14_Way.mono _ _ _ _ _
   | exact LeO.none _
   | refine LeO.ite ?_ ?_
   | refine LeO.bind ?_ (fun _ => ?_)
  ·intro y0 y1 y2 y3 y4 y5
   unfold mapmakerlaw14_DataFinds.j1
   repeat' first
   | (with_reducible exact ih0 _ _ _ _ _ _)
   | (with_reducible exact ih1 _ _ _ _ _ _)
   | (with_reducible exact ih2 _ _ _ _ _ _)
   | (with_reducible exact data_Has.mono _ _ _ _ _ _)
   | (with_reducible exact data_Refs.mono _ _ _ _)
   | (with_reducible exact data_Users.mono _ _ _ _ _ _)
   | (with_reducible exact mapmakerlaw14_lives.mono _)
   | (with_reducible exact mapmakerref14_Few.mono _ _ _ _ _)
   | (with_reducible exact mapmakerref14_Has.mono _ _ _ _ _ _)
   | (with_reducible exact mapmakerref14_Node.mono _ _ _ _ _)
   | (with_reducible exact mapmakerref14_Refs.mono _ _ _ _)
   | (with_reducible exact mapmakerref14_Rel.mono _ _ _ _ _)
   | (with_reducible exact mapmakerref14_SameNode.mono _ _ _ _ _ _ _ _ _)
   | (with_reducible exact mapmakerref14_SameRefs.mono _ _ _)
   | (with_reducible exact mapmakerref14_SameRel.mono _ _ _ _ _ _ _)
   | (with_reducible exact mapmakerref14_SameTags.mono _ _ _)
   | (with_reducible exact mapmakerref14_SameWay.mono _ _ _ _ _ _ _)
   | (with_reducible exact mapmakerref14_Tags.mono _ _ _ _ _ _)
   | (with_reducible exact mapmakerref14_Users.mono _ _ _ _ _ _)
   | (with_reducible exact mapmakerref14_Way.mono _ _ _ _ _)
   | (with_reducible exact LeO.refl _)
   | (with_reducible exact LeO.none _)
   | (with_reducible refine LeO.ite ?_ ?_)
   | (with_reducible refine LeO.bind ?_ (fun _ => ?_))
   | exact ih0 _ _ _ _ _ _
   | exact ih1 _ _ _ _ _ _
   | exact ih2 _ _ _ _ _ _
   | exact data_Has.mono _ _ _ _ _ _
   | exact data_Refs.mono _ _ _ _
   | exact data_Users.mono _ _ _ _ _ _
   | exact mapmakerlaw14_lives.mono _
   | exact mapmakerref14_Few.mono _ _ _ _ _
   | exact mapmakerref14_Has.mono _ _ _ _ _ _
   | exact mapmakerref14_Node.mono _ _ _ _ _
   | exact mapmakerref14_Refs.mono _ _ _ _
   | exact mapmakerref14_Rel.mono _ _ _ _ _
   | exact mapmakerref14_SameNode.mono _ _ _ _ _ _ _ _ _
   | exact mapmakerref14_SameRefs.mono _ _ _
   | exact mapmakerref14_SameRel.mono _ _ _ _ _ _ _
   | exact mapmakerref14_SameTags.mono _ _ _
   | exact mapmakerref14_SameWay.mono _ _ _ _ _ _ _
   | exact mapmakerref14_Tags.mono _ _ _ _ _ _
   | exact mapmakerref14_Users.mono _ _ _ _ _ _
   | exact mapmakerref14_Way.mono _ _ _ _ _
   | exact LeO.none _
   | refine LeO.ite ?_ ?_
   | refine LeO.bind ?_ (fun _ => ?_)
  ·intro y0 y1 y2 y3 y4 y5
   unfold mapmakerlaw14_DataFinds.j2
   repeat' first
   | (with_reducible exact ih0 _ _ _ _ _ _)
   | (with_reducible exact ih1 _ _ _ _ _ _)
   | (with_reducible exact ih2 _ _ _ _ _ _)
   | (with_reducible exact data_Has.mono _ _ _ _ _ _)
   | (with_reducible exact data_Refs.mono _ _ _ _)
   | (with_reducible exact data_Users.mono _ _ _ _ _ _)
   | (with_reducible exact mapmakerlaw14_lives.mono _)
   | (with_reducible exact mapmakerref14_Few.mono _ _ _ _ _)
   | (with_reducible exact mapmakerref14_Has.mono _ _ _ _ _ _)
   | (with_reducible exact mapmakerref14_Node.mono _ _ _ _ _)
   | (with_reducible exact mapmakerref14_Refs.mono _ _ _ _)
   | (with_reducible exact mapmakerref14_Rel.mono _ _ _ _ _)
   | (with_reducible exact mapmakerref14_SameNode.mono _ _ _ _ _ _ _ _ _)
   | (with_reducible exact mapmakerref14_SameRefs.mono _ _ _)
   | (with_reducible exact mapmakerref14_SameRel.mono _ _ _ _ _ _ _)
   | (with_reducible exact mapmakerref14_SameTags.mono _ _ _)
   | (with_reducible exact mapmakerref14_SameWay.mono _ _ _ _ _ _ _)
   | (with_reducible exact mapmakerref14_Tags.mono _ _ _ _ _ _)
   | (with_reducible exact mapmakerref14_Users.mono _ _ _ _ _ _)
   | (with_reducible exact mapmakerref14_Way.mono _ _ _ _ _)
   | (with_reducible exact LeO.refl _)
   | (with_reducible exact LeO.none _)
   | (with_reducible refine LeO.ite ?_ ?_)
   | (with_reducible refine LeO.bind ?_ (fun _ => ?_))
   | exact ih0 _ _ _ _ _ _
   | exact ih1 _ _ _ _ _ _
   | exact ih2 _ _ _ _ _ _
   | exact data_Has.mono _ _ _ _ _ _
   | exact data_Refs.mono _ _ _ _
   | exact data_Users.mono _ _ _ _ _ _
   | exact mapmakerlaw14_lives.mono _
   | exact mapmakerref14_Few.mono _ _ _ _ _
   | exact mapmakerref14_Has.mono _ _ _ _ _ _
   | exact mapmakerref14_Node.mono _ _ _ _ _
   | exact mapmakerref14_Refs.mono _ _ _ _
   | exact mapmakerref14_Rel.mono _ _ _ _ _
   | exact mapmakerref14_SameNode.mono _ _ _ _ _ _ _ _ _
   | exact mapmakerref14_SameRefs.mono _ _ _
   | exact mapmakerref14_SameRel.mono _ _ _ _ _ _ _
   | exact mapmakerref14_SameTags.mono _ _ _
   | exact mapmakerref14_SameWay.mono _ _ _ _ _ _ _
   | exact mapmakerref14_Tags.mono _ _ _ _ _ _
   | exact mapmakerref14_Users.mono _ _ _ _ _ _
   | exact mapmakerref14_Way.mono _ _ _ _ _
   | exact LeO.none _
   | refine LeO.ite ?_ ?_
   | refine LeO.bind ?_ (fun _ => ?_)
theorem mapmakerlaw14_DataFinds.mono : ∀ a0 a1 a2 a3 a4 k, LeO (mapmakerlaw14_DataFinds.f k a0 a1 a2 a3 a4) (mapmakerlaw14_DataFinds.f (k + 1) a0 a1 a2 a3 a4) := by
 intro a0 a1 a2 a3 a4 k
 obtain ⟨ih0, ih1, ih2⟩ := mapmakerlaw14_DataFinds.mono_l k
 unfold mapmakerlaw14_DataFinds.f
 repeat' first
   | (with_reducible exact ih0 _ _ _ _ _ _)
   | (with_reducible exact ih1 _ _ _ _ _ _)
   | (with_reducible exact ih2 _ _ _ _ _ _)
   | (with_reducible exact data_Has.mono _ _ _ _ _ _)
   | (with_reducible exact data_Refs.mono _ _ _ _)
   | (with_reducible exact data_Users.mono _ _ _ _ _ _)
   | (with_reducible exact mapmakerlaw14_lives.mono _)
   | (with_reducible exact mapmakerref14_Few.mono _ _ _ _ _)
   | (with_reducible exact mapmakerref14_Has.mono _ _ _ _ _ _)
   | (with_reducible exact mapmakerref14_Node.mono _ _ _ _ _)
   | (with_reducible exact mapmakerref14_Refs.mono _ _ _ _)
   | (with_reducible exact mapmakerref14_Rel.mono _ _ _ _ _)
   | (with_reducible exact mapmakerref14_SameNode.mono _ _ _ _ _ _ _ _ _)
   | (with_reducible exact mapmakerref14_SameRefs.mono _ _ _)
   | (with_reducible exact mapmakerref14_SameRel.mono _ _ _ _ _ _ _)
   | (with_reducible exact mapmakerref14_SameTags.mono _ _ _)
   | (with_reducible exact mapmakerref14_SameWay.mono _ _ _ _ _ _ _)
   | (with_reducible exact mapmakerref14_Tags.mono _ _ _ _ _ _)
   | (with_reducible exact mapmakerref14_Users.mono _ _ _ _ _ _)
   | (with_reducible exact mapmakerref14_Way.mono _ _ _ _ _)
   | (with_reducible exact LeO.refl _)
   | (with_reducible exact LeO.none _)
   | (with_reducible refine LeO.ite ?_ ?_)
   | (with_reducible refine LeO.bind ?_ (fun _ => ?_))
   | exact ih0 _ _ _ _ _ _
   | exact ih1 _ _ _ _ _ _
   | exact ih2 _ _ _ _ _ _
   | exact data_Has.mono _ _ _ _ _ _
   | exact data_Refs.mono _ _ _ _
   | exact data_Users.mono _ _ _ _ _ _
   | exact mapmakerlaw14_lives.mono _
   | exact mapmakerref14_Few.mono _ _ _ _ _
   | exact mapmakerref14_Has.mono _ _ _ _ _ _
   | exact mapmakerref14_Node.mono _ _ _ _ _
   | exact mapmakerref14_Refs.mono _ _ _ _
   | exact mapmakerref14_Rel.mono _ _ _ _ _
   | exact mapmakerref14_SameNode.mono _ _ _ _ _ _ _ _ _
   | exact mapmakerref14_SameRefs.mono _ _ _
   | exact mapmakerref14_SameRel.mono _ _ _ _ _ _ _
   | exact mapmakerref14_SameTags.mono _ _ _
   | exact mapmakerref14_SameWay.mono _ _ _ _ _ _ _
   | exact mapmakerref14_Tags.mono _ _ _ _ _ _
   | exact mapmakerref14_Users.mono _ _ _ _ _ _
   | exact mapmakerref14_Way.mono _ _ _ _ _
   | exact LeO.none _
   | refine LeO.ite ?_ ?_
   | refine LeO.bind ?_ (fun _ => ?_)
def mapmakerlaw14_DataFinds.T15 : Bool × List (List Nat × List Nat) := (true, [([], []), ([], []), ([0, 1], [0, 1]), ([], []), ([], []), ([3, 4, 2], [3, 4]), ([2, 5], [2, 5]), ([6, 5], [6]), ([7], [7]), ([7], [7]), ([8, 9, 7, 7], [7, 8, 9]), ([7], [7]), ([7], [7]), ([11, 12, 10, 7], [7, 11, 12]), ([10, 13, 13, 7], [7, 10, 13]), ([7, 14], [7, 14]), ([15, 14], [15]), ([16], [16]), ([17, 16, 16], [16, 17]), ([16], [16]), ([19, 18, 16], [16, 19]), ([18, 20, 20, 16], [16, 18, 20]), ([16, 21], [16, 21]), ([22, 21], [22]), ([23], [23]), ([23], [23]), ([24, 25, 23, 23], [23, 24, 25]), ([23], [23]), ([23], [23]), ([27, 28, 26, 23], [23, 27, 28]), ([26, 29, 29, 23], [23, 26, 29]), ([23, 30], [23, 30]), ([31, 30], [31]), ([32, 32], [32]), ([32, 33], [32, 33]), ([34, 33, 0, 1, 2, 3, 4, 5, 6, 7, 8, 9, 10, 11, 12, 13, 14, 15, 16, 17, 18, 19, 20, 21, 22, 23, 24, 25, 26, 27, 28, 29, 30, 31, 32, 33, 34], [34])])
def mapmakerlaw14_DataFinds.B15 : List Nat := [0, 0, 3, 0, 0, 31, 63, 127, 255, 255, 1023, 255, 255, 8191, 16383, 32767, 65535, 131071, 262143, 131071, 1048575, 2097151, 4194303, 8388607, 16777215, 16777215, 67108863, 16777215, 16777215, 536870911, 1073741823, 2147483647, 4294967295, 8589934591, 17179869183, 34359738367]
theorem mapmakerlaw14_DataFinds.tab15 : rtab .any (opsOf Try.f4 15) = mapmakerlaw14_DataFinds.T15 := by kernel_rfl
theorem mapmakerlaw14_DataFinds.bits15 : waitsOk mapmakerlaw14_DataFinds.T15.2 mapmakerlaw14_DataFinds.B15 = true := by kernel_rfl
set_option maxHeartbeats 8000000 in
set_option maxRecDepth 100000 in
theorem mapmakerlaw14_DataFinds.callsT (k : Nat) (A0_0 : Option Addr) (c0_0 : Nat) (l0_0 : List (S39)) (A0_1 : Option Addr) (c0_1 : Nat) (l0_1 : List (S45)) (A0_2 : Option Addr) (c0_2 : Nat) (l0_2 : List (S51)) (a1_0 : Int) (a1_1 : Int) (r : Bool) (w : World) (hr0_0 : Kd.C k39 w A0_0 l0_0.length l0_0) (hc0_0 : l0_0.length ≤ c0_0) (hr0_1 : Kd.C k45 w A0_1 l0_1.length l0_1) (hc0_1 : l0_1.length ≤ c0_1) (hr0_2 : Kd.C k51 w A0_2 l0_2.length l0_2) (hc0_2 : l0_2.length ≤ c0_2) (h : mapmakerlaw14_DataFinds.f k l0_0 l0_1 l0_2 a1_0 a1_1 = some r) (hT : r = true) :
  Calls Try.prog 4 #[.agg #[.slice A0_0 l0_0.length c0_0, .slice A0_1 l0_1.length c0_1, .slice A0_2 l0_2.length c0_2], .agg #[.int .i64 a1_0, .int .i64 a1_1]] w fun e w' => e = .returned (.bool r) ∧ Below w.heap.size w w' := by
 have hu26 := Try.underlying26
 have hu34 := Try.underlying34
 have hu39 := Try.underlying39
 have hu45 := Try.underlying45
 have hu51 := Try.underlying51
 have HR0_0 := aM hr0_0
 have HC0_0 := aM hc0_0
 clear hr0_0 hc0_0
 have HR0_1 := aM hr0_1
 have HC0_1 := aM hc0_1
 clear hr0_1 hc0_1
 have HR0_2 := aM hr0_2
 have HC0_2 := aM hc0_2
 clear hr0_2 hc0_2
 have HB := aM (Below.refl w.heap.size w)
 have H : ((mapmakerref14_Few.f k l0_0 l0_1 l0_2 600).bind fun t421 => (if t421 = true then ((data_Node.f l0_0 l0_1 l0_2 a1_1).bind fun bt423 => ((mapmakerref14_Node.f k l0_0 l0_1 l0_2 a1_1).bind fun bt431 => (if (bt423.2.2.2.2 != bt431.2.2.2.2) = true then (mapmakerlaw14_DataFinds.j0 k true l0_0 l0_1 l0_2 a1_0 a1_1) else ((mapmakerref14_SameNode.f k bt423.1 bt423.2.1 bt423.2.2.1 bt423.2.2.2.1 bt431.1 bt431.2.1 bt431.2.2.1 bt431.2.2.2.1).bind fun t439 => (mapmakerlaw14_DataFinds.j0 k (!t439) l0_0 l0_1 l0_2 a1_0 a1_1))))) else ((mapmakerlaw14_lives.f k).bind fun t422 => (some t422)))) = some r := h
 clear h
 replace H := Option.bind_eq_some_iff.mp H
 obtain ⟨t421, A30, H⟩ := H
 try dsimp only at H
 have A3 := aM A30
 clear A30
 by_cases c4 : t421 = true
 ·subst c4
  have H1 : ((data_Node.f l0_0 l0_1 l0_2 a1_1).bind fun bt423 => ((mapmakerref14_Node.f k l0_0 l0_1 l0_2 a1_1).bind fun bt431 => (if (bt423.2.2.2.2 != bt431.2.2.2.2) = true then (mapmakerlaw14_DataFinds.j0 k true l0_0 l0_1 l0_2 a1_0 a1_1) else ((mapmakerref14_SameNode.f k bt423.1 bt423.2.1 bt423.2.2.1 bt423.2.2.2.1 bt431.1 bt431.2.1 bt431.2.2.1 bt431.2.2.2.1).bind fun t439 => (mapmakerlaw14_DataFinds.j0 k (!t439) l0_0 l0_1 l0_2 a1_0 a1_1))))) = some r := by rw [if_pos rfl] at H; exact H
  clear H
  have H := H1
  clear H1
  replace H := Option.bind_eq_some_iff.mp H
  obtain ⟨⟨t423, t424, t425, t426, t429⟩, A50, H⟩ := H
  replace H : ((mapmakerref14_Node.f k l0_0 l0_1 l0_2 a1_1).bind fun bt431 => (if (t429 != bt431.2.2.2.2) = true then (mapmakerlaw14_DataFinds.j0 k true l0_0 l0_1 l0_2 a1_0 a1_1) else ((mapmakerref14_SameNode.f k t423 t424 t425 t426 bt431.1 bt431.2.1 bt431.2.2.1 bt431.2.2.2.1).bind fun t439 => (mapmakerlaw14_DataFinds.j0 k (!t439) l0_0 l0_1 l0_2 a1_0 a1_1)))) = some r := H
  have A5 := aM A50
  clear A50
  replace H := Option.bind_eq_some_iff.mp H
  obtain ⟨⟨t431, t432, t433, t434, t437⟩, A60, H⟩ := H
  replace H : (if (t429 != t437) = true then (mapmakerlaw14_DataFinds.j0 k true l0_0 l0_1 l0_2 a1_0 a1_1) else ((mapmakerref14_SameNode.f k t423 t424 t425 t426 t431 t432 t433 t434).bind fun t439 => (mapmakerlaw14_DataFinds.j0 k (!t439) l0_0 l0_1 l0_2 a1_0 a1_1))) = some r := H
  have A6 := aM A60
  clear A60
  have HC7 := aM H
  clear H
  go_enter Try.func4, Try.ntmps4
  go_upto_region 5 with (first | ((with_reducible refine gate_dst (N := 2) rfl ?_); refine bx (N := 2) (cs := #[.slice A0_0 l0_0.length c0_0, .slice A0_1 l0_1.length c0_1, .slice A0_2 l0_2.length c0_2]) (t := 26) ?_; intro gb419 hg w8 hbox hb; have BK419 := aM (hbox); have GW419 := aM (gw (w := w) hg); have GE419 := aM (gw (w := w) hg); replace HB := aM (bS (bl) hb); clear hb hbox hg) | ((with_reducible refine gate_dst (N := 3) rfl ?_); refine bx (N := 3) (cs := #[.int .i64 a1_0, .int .i64 a1_1]) (t := 34) ?_; intro gb420 hg w9 hbox hb; have BK420 := aM (hbox); have GW420 := aM (gw (w := w) hg); have GE420 := aM (gw (w := w) hg); have NB419_420 := aM (nb BK419 hg); have NB420_419 := aM (nb BK419 hg).symm; replace BK419 := aM (kB (kl BK419) hb); replace HB := aM (bS (bl) hb); clear hb hbox hg; have hnb10 := NB419_420.out; have hnc10 := NB420_419.out; obtain ⟨hcz11_0, hcz11_1, hcz11_2, hfz11_0, hfz11_1, hfz11_2⟩ := bc3 BK419) | ((with_reducible refine gate_callee (f := 8) rfl ?_); refine gL (some 18) Try.func8 #[.agg #[.slice A0_0 l0_0.length c0_0, .slice A0_1 l0_1.length c0_1, .slice A0_2 l0_2.length c0_2], .int .i64 600] ?_; (with_reducible refine (mapmakerref14_Few.calls k _ _ l0_0 _ _ l0_1 _ _ l0_2 600 true _ ?side1 ?side2 ?side3 ?side4 ?side5 ?side6 A3.out).mono ?_); (case side1 => exact cl HR0_0); (case side2 => exact HC0_0.out); (case side3 => exact cl HR0_1); (case side4 => exact HC0_1.out); (case side5 => exact cl HR0_2); (case side6 => exact HC0_2.out); rintro e w12 ⟨rfl, hb⟩; refine ⟨_, rfl, ?_⟩; replace BK419 := aM (kB (kl BK419) hb); replace BK420 := aM (kB (kl BK420) hb); replace HB := aM (bS (bl) hb); (try clear hb); obtain ⟨hcz13_0, hcz13_1, hcz13_2, hfz13_0, hfz13_1, hfz13_2⟩ := bc3 BK419; obtain ⟨hcz14_0, hcz14_1, hfz14_0, hfz14_1⟩ := bc2 BK420) | ((with_reducible refine gate_callee (f := 12) rfl ?_); refine gL (some 25) Try.func12 #[.agg #[.slice A0_0 l0_0.length c0_0, .slice A0_1 l0_1.length c0_1, .slice A0_2 l0_2.length c0_2], .int .i64 a1_1] ?_; (with_reducible refine (data_Node.calls (fun k_ => k_ < w.heap.size) _ _ l0_0 _ _ l0_1 _ _ l0_2 a1_1 t423 t424 t425 t426 t429 _ ?side1 ?side2 ?side3 ?side4 ?side5 A5.out).mono ?_); (case side1 => exact Kd.V_mk HC0_0.out (Kd.F_below (Kd.C_F k39_heap HR0_0.out) (bl))); (case side2 => exact cl HR0_1); (case side3 => exact HC0_1.out); (case side4 => exact cl HR0_2); (case side5 => exact HC0_2.out); rintro e w15 ⟨v427, rfl, ho0, hb⟩; refine ⟨_, rfl, ?_⟩; have HO428 := aM (Kd.V_lower (Kd.V_mono (ok' := fun k_ => k_ ≠ gb419 ∧ k_ ≠ gb420) ho0 (fun k_ hk_ => ⟨Or.elim hk_ (fun hs_ => fun e_ => Nat.not_le.2 hs_ (by rw [e_]; exact GW419.out)) (fun hn_ => (Kd.freshB (kl BK419) k_ hn_)), Or.elim hk_ (fun hs_ => fun e_ => Nat.not_le.2 hs_ (by rw [e_]; exact GW420.out)) (fun hn_ => (Kd.freshB (kl BK420) k_ hn_))⟩)) (below_size (bl))); replace BK419 := aM (kB (kl BK419) hb); replace BK420 := aM (kB (kl BK420) hb); replace HB := aM (bS (bl) hb); (try clear hb); (try clear ho0)) | ((with_reducible refine gate_dst (N := 5) rfl ?_); refine bx (N := 5) (cs := #[.int .i64 0, .int .i64 0, .int .i64 0, .slice none 0 0]) (t := 39) ?_; intro gb430 hg w16 hbox hb; have BK430 := aM (hbox); have GW430 := aM (gw (w := w) hg); have GE430 := aM (gw (w := w) hg); have NB419_430 := aM (nb BK419 hg); have NB430_419 := aM (nb BK419 hg).symm; have NB420_430 := aM (nb BK420 hg); have NB430_420 := aM (nb BK420 hg).symm; replace HO428 := aM (Kd.V_below (Kd.V_elderB (by (with_reducible repeat (first | apply Kd.V_alloc | apply Kd.V_drewN | apply Kd.V_drew)); exact HO428.out) gb430 (Nat.le_of_eq hg.symm)) hb); replace BK419 := aM (kB (kl BK419) hb); replace BK420 := aM (kB (kl BK420) hb); replace HB := aM (bS (bl) hb); clear hb hbox hg; have hnb17 := NB430_419.out; have hnc17 := NB419_430.out; have hnb18 := NB430_420.out; have hnc18 := NB420_430.out; obtain ⟨hcz19_0, hcz19_1, hcz19_2, hcz19_3, hfz19_0, hfz19_1, hfz19_2, hfz19_3⟩ := bc4 BK430; obtain ⟨Ao20, co20, eo20⟩ := Kd.V_slice HO428.out; subst eo20) | ((with_reducible refine gate_store (t := 39) (p := 5) rfl ?_); refine store_event (t := 39) (p := 5) (v := ?vo_w21) (w1 := ((((w16.setCell ⟨gb430, 0, none⟩ (.int .i64 t423)).setCell ⟨gb430, 1, none⟩ (.int .i64 t424)).setCell ⟨gb430, 2, none⟩ (.int .i64 t425)).setCell ⟨gb430, 3, none⟩ (.slice Ao20 t426.length co20))) ?hg ?ho ?hn ?hr ?_; (case ho => rfl); (case hg => rfl); (case hn => rfl); (case hr => first | (go_simp; done) | (go_simp; rfl)); intro w21 hw; have n0_ : Aside0 (Kd.V k70 70 w21 w.heap.size (fun k_ => k_ ≠ gb419 ∧ k_ ≠ gb420 ∧ k_ ≠ gb430) (.slice Ao20 t426.length co20) t426) := ⟨(by rw [hw]; exact (by (with_reducible repeat (first | apply Kd.V_alloc | apply Kd.V_drewN | apply Kd.V_drew)); exact Kd.V_mono (Kd.V_far (p := ⟨gb430, 3, none⟩) (Kd.V_far (p := ⟨gb430, 2, none⟩) (Kd.V_far (p := ⟨gb430, 1, none⟩) (Kd.V_far (p := ⟨gb430, 0, none⟩) (Kd.V_mono HO428.out (fun k_ hk => (⟨hk, hk.2⟩ : _ ∧ k_ ≠ gb430))) (fun _ hk => hk.2) (.int .i64 t423)) (fun _ hk => hk.2) (.int .i64 t424)) (fun _ hk => hk.2) (.int .i64 t425)) (fun _ hk => hk.2) (.slice Ao20 t426.length co20)) (fun _ hk => ⟨hk.1.1.1, ⟨hk.1.1.2, hk.1.2⟩⟩)))⟩; have n1_ : Aside0 (w21.heap[gb419]? = some (.cells #[.slice A0_0 l0_0.length c0_0, .slice A0_1 l0_1.length c0_1, .slice A0_2 l0_2.length c0_2] 26 (0, 0))) := ⟨(by rw [hw]; exact (by (with_reducible repeat (first | refine kN ?_ _ | refine kD ?_ | refine kA ?_ _)); refine blk_far ?_ NB419_430.out _; (with_reducible repeat (first | refine kN ?_ _ | refine kD ?_ | refine kA ?_ _)); refine blk_far ?_ NB419_430.out _; (with_reducible repeat (first | refine kN ?_ _ | refine kD ?_ | refine kA ?_ _)); refine blk_far ?_ NB419_430.out _; (with_reducible repeat (first | refine kN ?_ _ | refine kD ?_ | refine kA ?_ _)); refine blk_far ?_ NB419_430.out _; (with_reducible repeat (first | refine kN ?_ _ | refine kD ?_ | refine kA ?_ _)); exact BK419.out))⟩; have n2_ : Aside0 (w21.heap[gb420]? = some (.cells #[.int .i64 a1_0, .int .i64 a1_1] 34 (0, 0))) := ⟨(by rw [hw]; exact (by (with_reducible repeat (first | refine kN ?_ _ | refine kD ?_ | refine kA ?_ _)); refine blk_far ?_ NB420_430.out _; (with_reducible repeat (first | refine kN ?_ _ | refine kD ?_ | refine kA ?_ _)); refine blk_far ?_ NB420_430.out _; (with_reducible repeat (first | refine kN ?_ _ | refine kD ?_ | refine kA ?_ _)); refine blk_far ?_ NB420_430.out _; (with_reducible repeat (first | refine kN ?_ _ | refine kD ?_ | refine kA ?_ _)); refine blk_far ?_ NB420_430.out _; (with_reducible repeat (first | refine kN ?_ _ | refine kD ?_ | refine kA ?_ _)); exact BK420.out))⟩; have n3_ : Aside0 (w21.heap[gb430]? = some (.cells #[.int .i64 t423, .int .i64 t424, .int .i64 t425, .slice Ao20 t426.length co20] 39 (0, 0))) := ⟨(by rw [hw]; exact (by (with_reducible repeat (first | refine kN ?_ _ | refine kD ?_ | refine kA ?_ _)); refine kP (cs := #[.int .i64 t423, .int .i64 t424, .int .i64 t425, .slice none 0 0]) ?_ 3 _ rfl; (with_reducible repeat (first | refine kN ?_ _ | refine kD ?_ | refine kA ?_ _)); refine kP (cs := #[.int .i64 t423, .int .i64 t424, .int .i64 0, .slice none 0 0]) ?_ 2 _ rfl; (with_reducible repeat (first | refine kN ?_ _ | refine kD ?_ | refine kA ?_ _)); refine kP (cs := #[.int .i64 t423, .int .i64 0, .int .i64 0, .slice none 0 0]) ?_ 1 _ rfl; (with_reducible repeat (first | refine kN ?_ _ | refine kD ?_ | refine kA ?_ _)); refine kP (cs := #[.int .i64 0, .int .i64 0, .int .i64 0, .slice none 0 0]) ?_ 0 _ rfl; (with_reducible repeat (first | refine kN ?_ _ | refine kD ?_ | refine kA ?_ _)); exact BK430.out))⟩; have n4_ : Aside0 (Below w.heap.size w w21) := ⟨(by rw [hw]; exact (bl))⟩; clear hw HO428 BK419 BK420 BK430 HB; have HO428 := n0_; have BK419 := n1_; have BK420 := n2_; have BK430 := n3_; have HB := n4_; clear n0_ n1_ n2_ n3_ n4_; obtain ⟨hcz22_0, hcz22_1, hcz22_2, hfz22_0, hfz22_1, hfz22_2⟩ := bc3 BK419; obtain ⟨hcz23_0, hcz23_1, hfz23_0, hfz23_1⟩ := bc2 BK420) | ((with_reducible refine gate_callee (f := 13) rfl ?_); refine gL (some 32) Try.func13 #[.agg #[.slice A0_0 l0_0.length c0_0, .slice A0_1 l0_1.length c0_1, .slice A0_2 l0_2.length c0_2], .int .i64 a1_1] ?_; (with_reducible refine (mapmakerref14_Node.calls k (fun k_ => k_ < w.heap.size) _ _ l0_0 _ _ l0_1 _ _ l0_2 a1_1 t431 t432 t433 t434 t437 _ ?side1 ?side2 ?side3 ?side4 ?side5 A6.out).mono ?_); (case side1 => exact Kd.V_mk HC0_0.out (Kd.F_below (Kd.C_F k39_heap HR0_0.out) (bl))); (case side2 => exact cl HR0_1); (case side3 => exact HC0_1.out); (case side4 => exact cl HR0_2); (case side5 => exact HC0_2.out); rintro e w24 ⟨v435, rfl, ho0, hb⟩; refine ⟨_, rfl, ?_⟩; replace HO428 := aM (Kd.V_below (by (with_reducible repeat (first | apply Kd.V_alloc | apply Kd.V_drewN | apply Kd.V_drew)); exact HO428.out) hb); have HO436 := aM (Kd.V_lower (Kd.V_mono (ok' := fun k_ => k_ ≠ gb419 ∧ k_ ≠ gb420 ∧ k_ ≠ gb430) ho0 (fun k_ hk_ => ⟨Or.elim hk_ (fun hs_ => fun e_ => Nat.not_le.2 hs_ (by rw [e_]; exact GW419.out)) (fun hn_ => (Kd.freshB (kl BK419) k_ hn_)), Or.elim hk_ (fun hs_ => fun e_ => Nat.not_le.2 hs_ (by rw [e_]; exact GW420.out)) (fun hn_ => (Kd.freshB (kl BK420) k_ hn_)), Or.elim hk_ (fun hs_ => fun e_ => Nat.not_le.2 hs_ (by rw [e_]; exact GW430.out)) (fun hn_ => (Kd.freshB (kl BK430) k_ hn_))⟩)) (below_size (bl))); replace BK419 := aM (kB (kl BK419) hb); replace BK420 := aM (kB (kl BK420) hb); replace BK430 := aM (kB (kl BK430) hb); replace HB := aM (bS (bl) hb); (try clear hb); (try clear ho0)) | ((with_reducible refine gate_dst (N := 7) rfl ?_); refine bx (N := 7) (cs := #[.int .i64 0, .int .i64 0, .int .i64 0, .slice none 0 0]) (t := 39) ?_; intro gb438 hg w25 hbox hb; have n0_ := aM (Kd.V_below (Kd.V_elderB (by (with_reducible repeat (first | apply Kd.V_alloc | apply Kd.V_drewN | apply Kd.V_drew)); exact HO428.out) gb438 (Nat.le_of_eq hg.symm)) hb); have n1_ := aM (Kd.V_below (Kd.V_elderB (by (with_reducible repeat (first | apply Kd.V_alloc | apply Kd.V_drewN | apply Kd.V_drew)); exact HO436.out) gb438 (Nat.le_of_eq hg.symm)) hb); have n2_ := aM (kB (kl BK419) hb); have n3_ := aM (kB (kl BK420) hb); have n4_ := aM (kB (kl BK430) hb); have n5_ := aM (bS (bl) hb); have n6_ := aM (hbox); have n8_ := aM (gw (w := w) hg); have n9_ := aM (nb BK419 hg); have n10_ := aM (nb BK419 hg).symm; have n11_ := aM (nb BK420 hg); have n12_ := aM (nb BK420 hg).symm; have n13_ := aM (nb BK430 hg); have n14_ := aM (nb BK430 hg).symm; (try clear HO428); (try clear HO436); (try clear BK419); (try clear BK420); (try clear BK430); (try clear HB); have HO428 := n0_; have HO436 := n1_; have BK419 := n2_; have BK420 := n3_; have BK430 := n4_; have HB := n5_; have BK438 := n6_; have GE438 := n8_; have NB419_438 := n9_; have NB438_419 := n10_; have NB420_438 := n11_; have NB438_420 := n12_; have NB430_438 := n13_; have NB438_430 := n14_; clear n0_ n1_ n2_ n3_ n4_ n5_ n6_ n8_ n9_ n10_ n11_ n12_ n13_ n14_ hb hbox hg; have hnb26 := NB438_419.out; have hnc26 := NB419_438.out; have hnb27 := NB438_420.out; have hnc27 := NB420_438.out; have hnb28 := NB438_430.out; have hnc28 := NB430_438.out; obtain ⟨hcz29_0, hcz29_1, hcz29_2, hcz29_3, hfz29_0, hfz29_1, hfz29_2, hfz29_3⟩ := bc4 BK438; obtain ⟨Ao30, co30, eo30⟩ := Kd.V_slice HO436.out; subst eo30))
  (try simp only [Act.put, sA, sB, sC])
  go_cut [43] (fun v43 wc => ∃ (kq : Nat) (x43_6 : Bool), v43 = .bool x43_6 ∧ Aside0 (mapmakerlaw14_DataFinds.j0 kq x43_6 l0_0 l0_1 l0_2 a1_0 a1_1 = some r) ∧ Aside0 (kq ≤ k) ∧ Aside0 (wc.heap[gb419]? = some (.cells #[(.slice A0_0 l0_0.length c0_0), (.slice A0_1 l0_1.length c0_1), (.slice A0_2 l0_2.length c0_2)] 26 (0, 0))) ∧ Aside0 (wc.heap[gb420]? = some (.cells #[.int .i64 a1_0, .int .i64 a1_1] 34 (0, 0))) ∧ Aside0 (Below w.heap.size w wc))
  case first =>
   have H := HC7.out
   clear HC7
   by_cases c31 : (t429 != t437) = true
   ·rw [if_pos c31] at H
    have c31b0 : (t429 != t437) = true := c31
    (try (have c31b1 : decide (t429 = t437) = false := by simpa using c31))
    (try (have c31b2 : (t429 == t437) = false := by simpa using c31))
    (try (have c31b3 : ¬ (t429 = t437) := by simpa using c31))
    clear c31
    (first | rw [c31b0] | (simp only [i64_w, i32_w]; rw [c31b0]) | skip)
    have H' := aM H
    clear H
    go_wp2
    go_meet
    case rel => exact ⟨_, (true), (by first | rfl | (simp; done) | (simp [*]; done)), H', ⟨by first | omega | exact Nat.le_refl _⟩, ⟨by (with_reducible repeat (first | refine kN ?_ _ | refine kD ?_ | refine kA ?_ _)); refine blk_far ?_ NB419_438.out _; (with_reducible repeat (first | refine kN ?_ _ | refine kD ?_ | refine kA ?_ _)); refine blk_far ?_ NB419_438.out _; (with_reducible repeat (first | refine kN ?_ _ | refine kD ?_ | refine kA ?_ _)); refine blk_far ?_ NB419_438.out _; (with_reducible repeat (first | refine kN ?_ _ | refine kD ?_ | refine kA ?_ _)); refine blk_far ?_ NB419_438.out _; (with_reducible repeat (first | refine kN ?_ _ | refine kD ?_ | refine kA ?_ _)); exact BK419.out⟩, ⟨by (with_reducible repeat (first | refine kN ?_ _ | refine kD ?_ | refine kA ?_ _)); refine blk_far ?_ NB420_438.out _; (with_reducible repeat (first | refine kN ?_ _ | refine kD ?_ | refine kA ?_ _)); refine blk_far ?_ NB420_438.out _; (with_reducible repeat (first | refine kN ?_ _ | refine kD ?_ | refine kA ?_ _)); refine blk_far ?_ NB420_438.out _; (with_reducible repeat (first | refine kN ?_ _ | refine kD ?_ | refine kA ?_ _)); refine blk_far ?_ NB420_438.out _; (with_reducible repeat (first | refine kN ?_ _ | refine kD ?_ | refine kA ?_ _)); exact BK420.out⟩, ⟨bl⟩⟩
   ·rw [if_neg c31] at H
    have c31b0 : (t429 != t437) = false := by simpa using c31
    (try (have c31b1 : decide (t429 = t437) = true := by simpa using c31))
    (try (have c31b2 : (t429 == t437) = true := by simpa using c31))
    clear c31
    (first | rw [c31b0] | (simp only [i64_w, i32_w]; rw [c31b0]) | skip)
    replace H := Option.bind_eq_some_iff.mp H
    obtain ⟨t439, A320, H⟩ := H
    try dsimp only at H
    have A32 := aM A320
    clear A320
    have H' := aM H
    clear H
    have hnb33 := NB430_419.out
    have hnc33 := NB419_430.out
    have hnb34 := NB430_420.out
    have hnc34 := NB420_430.out
    have hnb35 := NB430_438.out
    have hnc35 := NB438_430.out
    obtain ⟨hcz36_0, hcz36_1, hcz36_2, hcz36_3, hfz36_0, hfz36_1, hfz36_2, hfz36_3⟩ := bc4 BK430
    have hnb37 := NB438_419.out
    have hnc37 := NB419_438.out
    have hnb38 := NB438_420.out
    have hnc38 := NB420_438.out
    obtain ⟨hcz39_0, hcz39_1, hcz39_2, hcz39_3, hfz39_0, hfz39_1, hfz39_2, hfz39_3⟩ := bc4 BK438
    go_wp2_with (first | (go_at_call 14; (with_reducible refine (mapmakerref14_SameNode.calls k t423 t424 t425 _ _ t426 t431 t432 t433 _ _ t434 t439 _ ?side1 ?side2 ?side3 ?side4 A32.out).mono ?_); (case side1 => refine (Kd.V_reads' (e := 70) (base := w.heap.size) (ok := fun k_ => ((k_ ≠ gb419 ∧ (k_ ≠ gb420 ∧ k_ ≠ gb430)) ∧ k_ ≠ gb438)) (n := t426.length) (c := co20) ?_).2.2; exact (by (with_reducible repeat (first | apply Kd.V_alloc | apply Kd.V_drewN | apply Kd.V_drew)); exact (Kd.V_mono (Kd.V_far (p := ⟨gb438, 3, none⟩) (Kd.V_far (p := ⟨gb438, 2, none⟩) (Kd.V_far (p := ⟨gb438, 1, none⟩) (Kd.V_far (p := ⟨gb438, 0, none⟩) (Kd.V_mono HO428.out (fun k_ hk => (⟨hk, hk.2⟩ : _ ∧ k_ ≠ gb438))) (fun _ hk => hk.2) (.int .i64 t431)) (fun _ hk => hk.2) (.int .i64 t432)) (fun _ hk => hk.2) (.int .i64 t433)) (fun _ hk => hk.2) (.slice Ao30 t434.length co30)) (fun _ h_ => h_.1)))); (case side2 => exact (Kd.V_reads' HO428.out).2.1); (case side3 => refine (Kd.V_reads' (e := 70) (base := w.heap.size) (ok := fun k_ => ((k_ ≠ gb419 ∧ (k_ ≠ gb420 ∧ k_ ≠ gb430)) ∧ k_ ≠ gb438)) (n := t434.length) (c := co30) ?_).2.2; exact (by (with_reducible repeat (first | apply Kd.V_alloc | apply Kd.V_drewN | apply Kd.V_drew)); exact (Kd.V_mono (Kd.V_far (p := ⟨gb438, 3, none⟩) (Kd.V_far (p := ⟨gb438, 2, none⟩) (Kd.V_far (p := ⟨gb438, 1, none⟩) (Kd.V_far (p := ⟨gb438, 0, none⟩) (Kd.V_mono HO436.out (fun k_ hk => (⟨hk, hk.2⟩ : _ ∧ k_ ≠ gb438))) (fun _ hk => hk.2) (.int .i64 t431)) (fun _ hk => hk.2) (.int .i64 t432)) (fun _ hk => hk.2) (.int .i64 t433)) (fun _ hk => hk.2) (.slice Ao30 t434.length co30)) (fun _ h_ => h_.1)))); (case side4 => exact (Kd.V_reads' HO436.out).2.1); rintro e w40 ⟨rfl, hb⟩; replace HO428 := aM (Kd.V_below (by (with_reducible repeat (first | apply Kd.V_alloc | apply Kd.V_drewN | apply Kd.V_drew)); exact (Kd.V_mono (Kd.V_far (p := ⟨gb438, 3, none⟩) (Kd.V_far (p := ⟨gb438, 2, none⟩) (Kd.V_far (p := ⟨gb438, 1, none⟩) (Kd.V_far (p := ⟨gb438, 0, none⟩) (Kd.V_mono HO428.out (fun k_ hk => (⟨hk, hk.2⟩ : _ ∧ k_ ≠ gb438))) (fun _ hk => hk.2) (.int .i64 t431)) (fun _ hk => hk.2) (.int .i64 t432)) (fun _ hk => hk.2) (.int .i64 t433)) (fun _ hk => hk.2) (.slice Ao30 t434.length co30)) (fun _ h_ => h_.1))) hb); replace HO436 := aM (Kd.V_below (by (with_reducible repeat (first | apply Kd.V_alloc | apply Kd.V_drewN | apply Kd.V_drew)); exact (Kd.V_mono (Kd.V_far (p := ⟨gb438, 3, none⟩) (Kd.V_far (p := ⟨gb438, 2, none⟩) (Kd.V_far (p := ⟨gb438, 1, none⟩) (Kd.V_far (p := ⟨gb438, 0, none⟩) (Kd.V_mono HO436.out (fun k_ hk => (⟨hk, hk.2⟩ : _ ∧ k_ ≠ gb438))) (fun _ hk => hk.2) (.int .i64 t431)) (fun _ hk => hk.2) (.int .i64 t432)) (fun _ hk => hk.2) (.int .i64 t433)) (fun _ hk => hk.2) (.slice Ao30 t434.length co30)) (fun _ h_ => h_.1))) hb); replace BK419 := aM (kB (g := gb419) (o := .cells #[.slice A0_0 l0_0.length c0_0, .slice A0_1 l0_1.length c0_1, .slice A0_2 l0_2.length c0_2] 26 (0, 0)) (by (with_reducible repeat (first | refine kN ?_ _ | refine kD ?_ | refine kA ?_ _)); refine blk_far ?_ NB419_438.out _; (with_reducible repeat (first | refine kN ?_ _ | refine kD ?_ | refine kA ?_ _)); refine blk_far ?_ NB419_438.out _; (with_reducible repeat (first | refine kN ?_ _ | refine kD ?_ | refine kA ?_ _)); refine blk_far ?_ NB419_438.out _; (with_reducible repeat (first | refine kN ?_ _ | refine kD ?_ | refine kA ?_ _)); refine blk_far ?_ NB419_438.out _; (with_reducible repeat (first | refine kN ?_ _ | refine kD ?_ | refine kA ?_ _)); exact BK419.out) hb); replace BK420 := aM (kB (g := gb420) (o := .cells #[.int .i64 a1_0, .int .i64 a1_1] 34 (0, 0)) (by (with_reducible repeat (first | refine kN ?_ _ | refine kD ?_ | refine kA ?_ _)); refine blk_far ?_ NB420_438.out _; (with_reducible repeat (first | refine kN ?_ _ | refine kD ?_ | refine kA ?_ _)); refine blk_far ?_ NB420_438.out _; (with_reducible repeat (first | refine kN ?_ _ | refine kD ?_ | refine kA ?_ _)); refine blk_far ?_ NB420_438.out _; (with_reducible repeat (first | refine kN ?_ _ | refine kD ?_ | refine kA ?_ _)); refine blk_far ?_ NB420_438.out _; (with_reducible repeat (first | refine kN ?_ _ | refine kD ?_ | refine kA ?_ _)); exact BK420.out) hb); replace HB := aM (bS (bl) hb); clear BK430 BK438; (try clear hb)))
    go_meet
    case rel => exact ⟨_, (!t439), (by first | rfl | (simp; done) | (simp [*]; done)), H', ⟨by first | omega | exact Nat.le_refl _⟩, ⟨by (with_reducible repeat (first | refine kN ?_ _ | refine kD ?_ | refine kA ?_ _)); exact BK419.out⟩, ⟨by (with_reducible repeat (first | refine kN ?_ _ | refine kD ?_ | refine kA ?_ _)); exact BK420.out⟩, ⟨bl⟩⟩
  case rest =>
   clear HC7
   try clear c1
   try clear c2
   try clear p2
   try clear c3
   try clear c4
   try clear c8
   try clear c10
   try clear c12
   try clear c13
   try clear c17
   try clear c18
   try clear c26
   try clear c27
   try clear c28
   try clear c31
   try clear c31b0
   try clear c31b1
   try clear c31b2
   try clear c33
   try clear c34
   try clear c35
   try clear c37
   try clear c38
   try clear hcz11_0 hcz11_1 hcz11_2 hfz11_0 hfz11_1 hfz11_2
   try clear hcz13_0 hcz13_1 hcz13_2 hfz13_0 hfz13_1 hfz13_2
   try clear hcz14_0 hcz14_1 hfz14_0 hfz14_1
   try clear hcz19_0 hcz19_1 hcz19_2 hcz19_3 hfz19_0 hfz19_1 hfz19_2 hfz19_3
   try clear hcz22_0 hcz22_1 hcz22_2 hfz22_0 hfz22_1 hfz22_2
   try clear hcz23_0 hcz23_1 hfz23_0 hfz23_1
   try clear hcz29_0 hcz29_1 hcz29_2 hcz29_3 hfz29_0 hfz29_1 hfz29_2 hfz29_3
   try clear hcz36_0 hcz36_1 hcz36_2 hcz36_3 hfz36_0 hfz36_1 hfz36_2 hfz36_3
   try clear hcz39_0 hcz39_1 hcz39_2 hcz39_3 hfz39_0 hfz39_1 hfz39_2 hfz39_3
   obtain ⟨kq, x43_6, rfl, HA, HJ6, BK419, BK420, HB⟩ := hcut
   cases kq with
   | zero => exact absurd HA.out (by simp [mapmakerlaw14_DataFinds.j0])
   | succ kj6 =>
    have H := HA.out
    clear HA
    simp only [mapmakerlaw14_DataFinds.j0] at H
    by_cases c41 : x43_6 = true
    ·subst c41
     have H1 : (some false) = some r := by rw [if_pos rfl] at H; exact H
     clear H
     have H := H1
     clear H1
     obtain rfl := Option.some.inj H
     cases hT
    ·replace c41 := Bool.eq_false_iff.mpr c41
     subst c41
     have H1 : ((data_Way.f l0_0 l0_1 l0_2 a1_1).bind fun bt440 => ((mapmakerref14_Way.f kj6 l0_0 l0_1 l0_2 a1_1).bind fun bt449 => (if (bt440.2.2.2 != bt449.2.2.2) = true then (mapmakerlaw14_DataFinds.j1 kj6 true l0_0 l0_1 l0_2 a1_0 a1_1) else ((mapmakerref14_SameWay.f kj6 bt440.1 bt440.2.1 bt440.2.2.1 bt449.1 bt449.2.1 bt449.2.2.1).bind fun t458 => (mapmakerlaw14_DataFinds.j1 kj6 (!t458) l0_0 l0_1 l0_2 a1_0 a1_1))))) = some r := by rw [if_neg (show ¬ (false = true) by decide)] at H; exact H
     clear H
     have H := H1
     clear H1
     replace H := Option.bind_eq_some_iff.mp H
     obtain ⟨⟨t440, t441, t444, t447⟩, A420, H⟩ := H
     replace H : ((mapmakerref14_Way.f kj6 l0_0 l0_1 l0_2 a1_1).bind fun bt449 => (if (t447 != bt449.2.2.2) = true then (mapmakerlaw14_DataFinds.j1 kj6 true l0_0 l0_1 l0_2 a1_0 a1_1) else ((mapmakerref14_SameWay.f kj6 t440 t441 t444 bt449.1 bt449.2.1 bt449.2.2.1).bind fun t458 => (mapmakerlaw14_DataFinds.j1 kj6 (!t458) l0_0 l0_1 l0_2 a1_0 a1_1)))) = some r := H
     have A42 := aM A420
     clear A420
     replace H := Option.bind_eq_some_iff.mp H
     obtain ⟨⟨t449, t450, t453, t456⟩, A430, H⟩ := H
     replace H : (if (t447 != t456) = true then (mapmakerlaw14_DataFinds.j1 kj6 true l0_0 l0_1 l0_2 a1_0 a1_1) else ((mapmakerref14_SameWay.f kj6 t440 t441 t444 t449 t450 t453).bind fun t458 => (mapmakerlaw14_DataFinds.j1 kj6 (!t458) l0_0 l0_1 l0_2 a1_0 a1_1))) = some r := H
     have A43 := aM A430
     clear A430
     have HC44 := aM H
     clear H
     have hnb45 := NB419_420.out
     have hnc45 := NB420_419.out
     obtain ⟨hcz46_0, hcz46_1, hcz46_2, hfz46_0, hfz46_1, hfz46_2⟩ := bc3 BK419
     obtain ⟨hcz47_0, hcz47_1, hfz47_0, hfz47_1⟩ := bc2 BK420
     go_upto_region 9 with (first | ((with_reducible refine gate_callee (f := 15) rfl ?_); refine gL (some 48) Try.func15 #[.agg #[.slice A0_0 l0_0.length c0_0, .slice A0_1 l0_1.length c0_1, .slice A0_2 l0_2.length c0_2], .int .i64 a1_1] ?_; (with_reducible refine (data_Way.calls _ _ l0_0 (fun k_ => k_ < w.heap.size) _ _ l0_1 _ _ l0_2 a1_1 t440 t441 t444 t447 _ ?side1 ?side2 ?side3 ?side4 ?side5 A42.out).mono ?_); (case side1 => exact cl HR0_0); (case side2 => exact HC0_0.out); (case side3 => exact Kd.V_mk HC0_1.out (Kd.F_below (Kd.C_F k45_heap HR0_1.out) (bl))); (case side4 => exact cl HR0_2); (case side5 => exact HC0_2.out); rintro e w48 ⟨v442, v445, rfl, ho0, ho1, hb⟩; refine ⟨_, rfl, ?_⟩; have HO443 := aM (Kd.V_lower (Kd.V_mono (ok' := fun k_ => k_ ≠ gb419 ∧ k_ ≠ gb420) ho0 (fun k_ hk_ => ⟨Or.elim hk_ (fun hs_ => fun e_ => Nat.not_le.2 hs_ (by rw [e_]; exact GW419.out)) (fun hn_ => (Kd.freshB (kl BK419) k_ hn_)), Or.elim hk_ (fun hs_ => fun e_ => Nat.not_le.2 hs_ (by rw [e_]; exact GW420.out)) (fun hn_ => (Kd.freshB (kl BK420) k_ hn_))⟩)) (below_size (bl))); have HO446 := aM (Kd.V_lower (Kd.V_mono (ok' := fun k_ => k_ ≠ gb419 ∧ k_ ≠ gb420) ho1 (fun k_ hk_ => ⟨Or.elim hk_ (fun hs_ => fun e_ => Nat.not_le.2 hs_ (by rw [e_]; exact GW419.out)) (fun hn_ => (Kd.freshB (kl BK419) k_ hn_)), Or.elim hk_ (fun hs_ => fun e_ => Nat.not_le.2 hs_ (by rw [e_]; exact GW420.out)) (fun hn_ => (Kd.freshB (kl BK420) k_ hn_))⟩)) (below_size (bl))); replace BK419 := aM (kB (kl BK419) hb); replace BK420 := aM (kB (kl BK420) hb); replace HB := aM (bS (bl) hb); (try clear hb); (try clear ho0); (try clear ho1)) | ((with_reducible refine gate_dst (N := 9) rfl ?_); refine bx (N := 9) (cs := #[.int .i64 0, .slice none 0 0, .slice none 0 0]) (t := 45) ?_; intro gb448 hg w49 hbox hb; have BK448 := aM (hbox); have GW448 := aM (gw (w := w) hg); have GE448 := aM (gw (w := w) hg); have NB419_448 := aM (nb BK419 hg); have NB448_419 := aM (nb BK419 hg).symm; have NB420_448 := aM (nb BK420 hg); have NB448_420 := aM (nb BK420 hg).symm; replace HO443 := aM (Kd.V_below (Kd.V_elderB (by (with_reducible repeat (first | apply Kd.V_alloc | apply Kd.V_drewN | apply Kd.V_drew)); exact HO443.out) gb448 (Nat.le_of_eq hg.symm)) hb); replace HO446 := aM (Kd.V_below (Kd.V_elderB (by (with_reducible repeat (first | apply Kd.V_alloc | apply Kd.V_drewN | apply Kd.V_drew)); exact HO446.out) gb448 (Nat.le_of_eq hg.symm)) hb); replace BK419 := aM (kB (kl BK419) hb); replace BK420 := aM (kB (kl BK420) hb); replace HB := aM (bS (bl) hb); clear hb hbox hg; have hnb50 := NB448_419.out; have hnc50 := NB419_448.out; have hnb51 := NB448_420.out; have hnc51 := NB420_448.out; obtain ⟨hcz52_0, hcz52_1, hcz52_2, hfz52_0, hfz52_1, hfz52_2⟩ := bc3 BK448; obtain ⟨Ao53, co53, eo53⟩ := Kd.V_slice HO443.out; subst eo53; obtain ⟨Ao54, co54, eo54⟩ := Kd.V_slice HO446.out; subst eo54) | ((with_reducible refine gate_store (t := 45) (p := 9) rfl ?_); refine store_event (t := 45) (p := 9) (v := ?vo_w55) (w1 := (((w49.setCell ⟨gb448, 0, none⟩ (.int .i64 t440)).setCell ⟨gb448, 1, none⟩ (.slice Ao53 t441.length co53)).setCell ⟨gb448, 2, none⟩ (.slice Ao54 t444.length co54))) ?hg ?ho ?hn ?hr ?_; (case ho => rfl); (case hg => rfl); (case hn => rfl); (case hr => first | (go_simp; done) | (go_simp; rfl)); intro w55 hw; have n0_ : Aside0 (Kd.V (Kd.int .i64) 3 w55 w.heap.size (fun k_ => k_ ≠ gb419 ∧ k_ ≠ gb420 ∧ k_ ≠ gb448) (.slice Ao53 t441.length co53) t441) := ⟨(by rw [hw]; exact (by (with_reducible repeat (first | apply Kd.V_alloc | apply Kd.V_drewN | apply Kd.V_drew)); exact Kd.V_mono (Kd.V_far (p := ⟨gb448, 2, none⟩) (Kd.V_far (p := ⟨gb448, 1, none⟩) (Kd.V_far (p := ⟨gb448, 0, none⟩) (Kd.V_mono HO443.out (fun k_ hk => (⟨hk, hk.2⟩ : _ ∧ k_ ≠ gb448))) (fun _ hk => hk.2) (.int .i64 t440)) (fun _ hk => hk.2) (.slice Ao53 t441.length co53)) (fun _ hk => hk.2) (.slice Ao54 t444.length co54)) (fun _ hk => ⟨hk.1.1.1, ⟨hk.1.1.2, hk.1.2⟩⟩)))⟩; have n1_ : Aside0 (Kd.V k70 70 w55 w.heap.size (fun k_ => k_ ≠ gb419 ∧ k_ ≠ gb420 ∧ k_ ≠ gb448) (.slice Ao54 t444.length co54) t444) := ⟨(by rw [hw]; exact (by (with_reducible repeat (first | apply Kd.V_alloc | apply Kd.V_drewN | apply Kd.V_drew)); exact Kd.V_mono (Kd.V_far (p := ⟨gb448, 2, none⟩) (Kd.V_far (p := ⟨gb448, 1, none⟩) (Kd.V_far (p := ⟨gb448, 0, none⟩) (Kd.V_mono HO446.out (fun k_ hk => (⟨hk, hk.2⟩ : _ ∧ k_ ≠ gb448))) (fun _ hk => hk.2) (.int .i64 t440)) (fun _ hk => hk.2) (.slice Ao53 t441.length co53)) (fun _ hk => hk.2) (.slice Ao54 t444.length co54)) (fun _ hk => ⟨hk.1.1.1, ⟨hk.1.1.2, hk.1.2⟩⟩)))⟩; have n2_ : Aside0 (w55.heap[gb419]? = some (.cells #[.slice A0_0 l0_0.length c0_0, .slice A0_1 l0_1.length c0_1, .slice A0_2 l0_2.length c0_2] 26 (0, 0))) := ⟨(by rw [hw]; exact (by (with_reducible repeat (first | refine kN ?_ _ | refine kD ?_ | refine kA ?_ _)); refine blk_far ?_ NB419_448.out _; (with_reducible repeat (first | refine kN ?_ _ | refine kD ?_ | refine kA ?_ _)); refine blk_far ?_ NB419_448.out _; (with_reducible repeat (first | refine kN ?_ _ | refine kD ?_ | refine kA ?_ _)); refine blk_far ?_ NB419_448.out _; (with_reducible repeat (first | refine kN ?_ _ | refine kD ?_ | refine kA ?_ _)); exact BK419.out))⟩; have n3_ : Aside0 (w55.heap[gb420]? = some (.cells #[.int .i64 a1_0, .int .i64 a1_1] 34 (0, 0))) := ⟨(by rw [hw]; exact (by (with_reducible repeat (first | refine kN ?_ _ | refine kD ?_ | refine kA ?_ _)); refine blk_far ?_ NB420_448.out _; (with_reducible repeat (first | refine kN ?_ _ | refine kD ?_ | refine kA ?_ _)); refine blk_far ?_ NB420_448.out _; (with_reducible repeat (first | refine kN ?_ _ | refine kD ?_ | refine kA ?_ _)); refine blk_far ?_ NB420_448.out _; (with_reducible repeat (first | refine kN ?_ _ | refine kD ?_ | refine kA ?_ _)); exact BK420.out))⟩; have n4_ : Aside0 (w55.heap[gb448]? = some (.cells #[.int .i64 t440, .slice Ao53 t441.length co53, .slice Ao54 t444.length co54] 45 (0, 0))) := ⟨(by rw [hw]; exact (by (with_reducible repeat (first | refine kN ?_ _ | refine kD ?_ | refine kA ?_ _)); refine kP (cs := #[.int .i64 t440, .slice Ao53 t441.length co53, .slice none 0 0]) ?_ 2 _ rfl; (with_reducible repeat (first | refine kN ?_ _ | refine kD ?_ | refine kA ?_ _)); refine kP (cs := #[.int .i64 t440, .slice none 0 0, .slice none 0 0]) ?_ 1 _ rfl; (with_reducible repeat (first | refine kN ?_ _ | refine kD ?_ | refine kA ?_ _)); refine kP (cs := #[.int .i64 0, .slice none 0 0, .slice none 0 0]) ?_ 0 _ rfl; (with_reducible repeat (first | refine kN ?_ _ | refine kD ?_ | refine kA ?_ _)); exact BK448.out))⟩; have n5_ : Aside0 (Below w.heap.size w w55) := ⟨(by rw [hw]; exact (bl))⟩; clear hw HO443 HO446 BK419 BK420 BK448 HB; have HO443 := n0_; have HO446 := n1_; have BK419 := n2_; have BK420 := n3_; have BK448 := n4_; have HB := n5_; clear n0_ n1_ n2_ n3_ n4_ n5_; obtain ⟨hcz56_0, hcz56_1, hcz56_2, hfz56_0, hfz56_1, hfz56_2⟩ := bc3 BK419; obtain ⟨hcz57_0, hcz57_1, hfz57_0, hfz57_1⟩ := bc2 BK420) | ((with_reducible refine gate_callee (f := 16) rfl ?_); refine gL (some 55) Try.func16 #[.agg #[.slice A0_0 l0_0.length c0_0, .slice A0_1 l0_1.length c0_1, .slice A0_2 l0_2.length c0_2], .int .i64 a1_1] ?_; (with_reducible refine (mapmakerref14_Way.calls kj6 _ _ l0_0 (fun k_ => k_ < w.heap.size) _ _ l0_1 _ _ l0_2 a1_1 t449 t450 t453 t456 _ ?side1 ?side2 ?side3 ?side4 ?side5 A43.out).mono ?_); (case side1 => exact cl HR0_0); (case side2 => exact HC0_0.out); (case side3 => exact Kd.V_mk HC0_1.out (Kd.F_below (Kd.C_F k45_heap HR0_1.out) (bl))); (case side4 => exact cl HR0_2); (case side5 => exact HC0_2.out); rintro e w58 ⟨v451, v454, rfl, ho0, ho1, hb⟩; refine ⟨_, rfl, ?_⟩; replace HO443 := aM (Kd.V_below (by (with_reducible repeat (first | apply Kd.V_alloc | apply Kd.V_drewN | apply Kd.V_drew)); exact HO443.out) hb); replace HO446 := aM (Kd.V_below (by (with_reducible repeat (first | apply Kd.V_alloc | apply Kd.V_drewN | apply Kd.V_drew)); exact HO446.out) hb); have HO452 := aM (Kd.V_lower (Kd.V_mono (ok' := fun k_ => k_ ≠ gb419 ∧ k_ ≠ gb420 ∧ k_ ≠ gb448) ho0 (fun k_ hk_ => ⟨Or.elim hk_ (fun hs_ => fun e_ => Nat.not_le.2 hs_ (by rw [e_]; exact GW419.out)) (fun hn_ => (Kd.freshB (kl BK419) k_ hn_)), Or.elim hk_ (fun hs_ => fun e_ => Nat.not_le.2 hs_ (by rw [e_]; exact GW420.out)) (fun hn_ => (Kd.freshB (kl BK420) k_ hn_)), Or.elim hk_ (fun hs_ => fun e_ => Nat.not_le.2 hs_ (by rw [e_]; exact GW448.out)) (fun hn_ => (Kd.freshB (kl BK448) k_ hn_))⟩)) (below_size (bl))); have HO455 := aM (Kd.V_lower (Kd.V_mono (ok' := fun k_ => k_ ≠ gb419 ∧ k_ ≠ gb420 ∧ k_ ≠ gb448) ho1 (fun k_ hk_ => ⟨Or.elim hk_ (fun hs_ => fun e_ => Nat.not_le.2 hs_ (by rw [e_]; exact GW419.out)) (fun hn_ => (Kd.freshB (kl BK419) k_ hn_)), Or.elim hk_ (fun hs_ => fun e_ => Nat.not_le.2 hs_ (by rw [e_]; exact GW420.out)) (fun hn_ => (Kd.freshB (kl BK420) k_ hn_)), Or.elim hk_ (fun hs_ => fun e_ => Nat.not_le.2 hs_ (by rw [e_]; exact GW448.out)) (fun hn_ => (Kd.freshB (kl BK448) k_ hn_))⟩)) (below_size (bl))); replace BK419 := aM (kB (kl BK419) hb); replace BK420 := aM (kB (kl BK420) hb); replace BK448 := aM (kB (kl BK448) hb); replace HB := aM (bS (bl) hb); (try clear hb); (try clear ho0); (try clear ho1)) | ((with_reducible refine gate_dst (N := 11) rfl ?_); refine bx (N := 11) (cs := #[.int .i64 0, .slice none 0 0, .slice none 0 0]) (t := 45) ?_; intro gb457 hg w59 hbox hb; have n0_ := aM (Kd.V_below (Kd.V_elderB (by (with_reducible repeat (first | apply Kd.V_alloc | apply Kd.V_drewN | apply Kd.V_drew)); exact HO443.out) gb457 (Nat.le_of_eq hg.symm)) hb); have n1_ := aM (Kd.V_below (Kd.V_elderB (by (with_reducible repeat (first | apply Kd.V_alloc | apply Kd.V_drewN | apply Kd.V_drew)); exact HO446.out) gb457 (Nat.le_of_eq hg.symm)) hb); have n2_ := aM (Kd.V_below (Kd.V_elderB (by (with_reducible repeat (first | apply Kd.V_alloc | apply Kd.V_drewN | apply Kd.V_drew)); exact HO452.out) gb457 (Nat.le_of_eq hg.symm)) hb); have n3_ := aM (Kd.V_below (Kd.V_elderB (by (with_reducible repeat (first | apply Kd.V_alloc | apply Kd.V_drewN | apply Kd.V_drew)); exact HO455.out) gb457 (Nat.le_of_eq hg.symm)) hb); have n4_ := aM (kB (kl BK419) hb); have n5_ := aM (kB (kl BK420) hb); have n6_ := aM (kB (kl BK448) hb); have n7_ := aM (bS (bl) hb); have n8_ := aM (hbox); have n10_ := aM (gw (w := w) hg); have n11_ := aM (nb BK419 hg); have n12_ := aM (nb BK419 hg).symm; have n13_ := aM (nb BK420 hg); have n14_ := aM (nb BK420 hg).symm; have n15_ := aM (nb BK448 hg); have n16_ := aM (nb BK448 hg).symm; (try clear HO443); (try clear HO446); (try clear HO452); (try clear HO455); (try clear BK419); (try clear BK420); (try clear BK448); (try clear HB); have HO443 := n0_; have HO446 := n1_; have HO452 := n2_; have HO455 := n3_; have BK419 := n4_; have BK420 := n5_; have BK448 := n6_; have HB := n7_; have BK457 := n8_; have GE457 := n10_; have NB419_457 := n11_; have NB457_419 := n12_; have NB420_457 := n13_; have NB457_420 := n14_; have NB448_457 := n15_; have NB457_448 := n16_; clear n0_ n1_ n2_ n3_ n4_ n5_ n6_ n7_ n8_ n10_ n11_ n12_ n13_ n14_ n15_ n16_ hb hbox hg; have hnb60 := NB457_419.out; have hnc60 := NB419_457.out; have hnb61 := NB457_420.out; have hnc61 := NB420_457.out; have hnb62 := NB457_448.out; have hnc62 := NB448_457.out; obtain ⟨hcz63_0, hcz63_1, hcz63_2, hfz63_0, hfz63_1, hfz63_2⟩ := bc3 BK457; obtain ⟨Ao64, co64, eo64⟩ := Kd.V_slice HO452.out; subst eo64; obtain ⟨Ao65, co65, eo65⟩ := Kd.V_slice HO455.out; subst eo65))
     (try simp only [Act.put, sA, sB, sC])
     go_cut [66] (fun v66 wc => ∃ (kq : Nat) (x66_43 : Bool), v66 = .bool x66_43 ∧ Aside0 (mapmakerlaw14_DataFinds.j1 kq x66_43 l0_0 l0_1 l0_2 a1_0 a1_1 = some r) ∧ Aside0 (kq ≤ kj6) ∧ Aside0 (wc.heap[gb419]? = some (.cells #[(.slice A0_0 l0_0.length c0_0), (.slice A0_1 l0_1.length c0_1), (.slice A0_2 l0_2.length c0_2)] 26 (0, 0))) ∧ Aside0 (wc.heap[gb420]? = some (.cells #[.int .i64 a1_0, .int .i64 a1_1] 34 (0, 0))) ∧ Aside0 (Below w.heap.size w wc))
     case first =>
      have H := HC44.out
      clear HC44
      by_cases c66 : (t447 != t456) = true
      ·rw [if_pos c66] at H
       have c66b0 : (t447 != t456) = true := c66
       (try (have c66b1 : decide (t447 = t456) = false := by simpa using c66))
       (try (have c66b2 : (t447 == t456) = false := by simpa using c66))
       (try (have c66b3 : ¬ (t447 = t456) := by simpa using c66))
       clear c66
       (first | rw [c66b0] | (simp only [i64_w, i32_w]; rw [c66b0]) | skip)
       have H' := aM H
       clear H
       go_wp2
       go_meet
       case rel => exact ⟨_, (true), (by first | rfl | (simp; done) | (simp [*]; done)), H', ⟨by have := HJ6.out; first | omega | exact Nat.le_refl _⟩, ⟨by (with_reducible repeat (first | refine kN ?_ _ | refine kD ?_ | refine kA ?_ _)); refine blk_far ?_ NB419_457.out _; (with_reducible repeat (first | refine kN ?_ _ | refine kD ?_ | refine kA ?_ _)); refine blk_far ?_ NB419_457.out _; (with_reducible repeat (first | refine kN ?_ _ | refine kD ?_ | refine kA ?_ _)); refine blk_far ?_ NB419_457.out _; (with_reducible repeat (first | refine kN ?_ _ | refine kD ?_ | refine kA ?_ _)); exact BK419.out⟩, ⟨by (with_reducible repeat (first | refine kN ?_ _ | refine kD ?_ | refine kA ?_ _)); refine blk_far ?_ NB420_457.out _; (with_reducible repeat (first | refine kN ?_ _ | refine kD ?_ | refine kA ?_ _)); refine blk_far ?_ NB420_457.out _; (with_reducible repeat (first | refine kN ?_ _ | refine kD ?_ | refine kA ?_ _)); refine blk_far ?_ NB420_457.out _; (with_reducible repeat (first | refine kN ?_ _ | refine kD ?_ | refine kA ?_ _)); exact BK420.out⟩, ⟨bl⟩⟩
      ·rw [if_neg c66] at H
       have c66b0 : (t447 != t456) = false := by simpa using c66
       (try (have c66b1 : decide (t447 = t456) = true := by simpa using c66))
       (try (have c66b2 : (t447 == t456) = true := by simpa using c66))
       clear c66
       (first | rw [c66b0] | (simp only [i64_w, i32_w]; rw [c66b0]) | skip)
       replace H := Option.bind_eq_some_iff.mp H
       obtain ⟨t458, A670, H⟩ := H
       try dsimp only at H
       have A67 := aM A670
       clear A670
       have H' := aM H
       clear H
       have hnb68 := NB448_419.out
       have hnc68 := NB419_448.out
       have hnb69 := NB448_420.out
       have hnc69 := NB420_448.out
       have hnb70 := NB448_457.out
       have hnc70 := NB457_448.out
       obtain ⟨hcz71_0, hcz71_1, hcz71_2, hfz71_0, hfz71_1, hfz71_2⟩ := bc3 BK448
       have hnb72 := NB457_419.out
       have hnc72 := NB419_457.out
       have hnb73 := NB457_420.out
       have hnc73 := NB420_457.out
       obtain ⟨hcz74_0, hcz74_1, hcz74_2, hfz74_0, hfz74_1, hfz74_2⟩ := bc3 BK457
       go_wp2_with (first | (go_at_call 17; (with_reducible refine (mapmakerref14_SameWay.calls kj6 t440 _ _ t441 _ _ t444 t449 _ _ t450 _ _ t453 t458 _ ?side1 ?side2 ?side3 ?side4 ?side5 ?side6 ?side7 ?side8 A67.out).mono ?_); (case side1 => refine (Kd.V_reads' (e := 3) (base := w.heap.size) (ok := fun k_ => ((k_ ≠ gb419 ∧ (k_ ≠ gb420 ∧ k_ ≠ gb448)) ∧ k_ ≠ gb457)) (n := t441.length) (c := co53) ?_).2.2; exact (by (with_reducible repeat (first | apply Kd.V_alloc | apply Kd.V_drewN | apply Kd.V_drew)); exact (Kd.V_mono (Kd.V_far (p := ⟨gb457, 2, none⟩) (Kd.V_far (p := ⟨gb457, 1, none⟩) (Kd.V_far (p := ⟨gb457, 0, none⟩) (Kd.V_mono HO443.out (fun k_ hk => (⟨hk, hk.2⟩ : _ ∧ k_ ≠ gb457))) (fun _ hk => hk.2) (.int .i64 t449)) (fun _ hk => hk.2) (.slice Ao64 t450.length co64)) (fun _ hk => hk.2) (.slice Ao65 t453.length co65)) (fun _ h_ => h_.1)))); (case side2 => exact (Kd.V_reads' HO443.out).2.1); (case side3 => refine (Kd.V_reads' (e := 70) (base := w.heap.size) (ok := fun k_ => ((k_ ≠ gb419 ∧ (k_ ≠ gb420 ∧ k_ ≠ gb448)) ∧ k_ ≠ gb457)) (n := t444.length) (c := co54) ?_).2.2; exact (by (with_reducible repeat (first | apply Kd.V_alloc | apply Kd.V_drewN | apply Kd.V_drew)); exact (Kd.V_mono (Kd.V_far (p := ⟨gb457, 2, none⟩) (Kd.V_far (p := ⟨gb457, 1, none⟩) (Kd.V_far (p := ⟨gb457, 0, none⟩) (Kd.V_mono HO446.out (fun k_ hk => (⟨hk, hk.2⟩ : _ ∧ k_ ≠ gb457))) (fun _ hk => hk.2) (.int .i64 t449)) (fun _ hk => hk.2) (.slice Ao64 t450.length co64)) (fun _ hk => hk.2) (.slice Ao65 t453.length co65)) (fun _ h_ => h_.1)))); (case side4 => exact (Kd.V_reads' HO446.out).2.1); (case side5 => refine (Kd.V_reads' (e := 3) (base := w.heap.size) (ok := fun k_ => ((k_ ≠ gb419 ∧ (k_ ≠ gb420 ∧ k_ ≠ gb448)) ∧ k_ ≠ gb457)) (n := t450.length) (c := co64) ?_).2.2; exact (by (with_reducible repeat (first | apply Kd.V_alloc | apply Kd.V_drewN | apply Kd.V_drew)); exact (Kd.V_mono (Kd.V_far (p := ⟨gb457, 2, none⟩) (Kd.V_far (p := ⟨gb457, 1, none⟩) (Kd.V_far (p := ⟨gb457, 0, none⟩) (Kd.V_mono HO452.out (fun k_ hk => (⟨hk, hk.2⟩ : _ ∧ k_ ≠ gb457))) (fun _ hk => hk.2) (.int .i64 t449)) (fun _ hk => hk.2) (.slice Ao64 t450.length co64)) (fun _ hk => hk.2) (.slice Ao65 t453.length co65)) (fun _ h_ => h_.1)))); (case side6 => exact (Kd.V_reads' HO452.out).2.1); (case side7 => refine (Kd.V_reads' (e := 70) (base := w.heap.size) (ok := fun k_ => ((k_ ≠ gb419 ∧ (k_ ≠ gb420 ∧ k_ ≠ gb448)) ∧ k_ ≠ gb457)) (n := t453.length) (c := co65) ?_).2.2; exact (by (with_reducible repeat (first | apply Kd.V_alloc | apply Kd.V_drewN | apply Kd.V_drew)); exact (Kd.V_mono (Kd.V_far (p := ⟨gb457, 2, none⟩) (Kd.V_far (p := ⟨gb457, 1, none⟩) (Kd.V_far (p := ⟨gb457, 0, none⟩) (Kd.V_mono HO455.out (fun k_ hk => (⟨hk, hk.2⟩ : _ ∧ k_ ≠ gb457))) (fun _ hk => hk.2) (.int .i64 t449)) (fun _ hk => hk.2) (.slice Ao64 t450.length co64)) (fun _ hk => hk.2) (.slice Ao65 t453.length co65)) (fun _ h_ => h_.1)))); (case side8 => exact (Kd.V_reads' HO455.out).2.1); rintro e w75 ⟨rfl, hb⟩; replace HO443 := aM (Kd.V_below (by (with_reducible repeat (first | apply Kd.V_alloc | apply Kd.V_drewN | apply Kd.V_drew)); exact (Kd.V_mono (Kd.V_far (p := ⟨gb457, 2, none⟩) (Kd.V_far (p := ⟨gb457, 1, none⟩) (Kd.V_far (p := ⟨gb457, 0, none⟩) (Kd.V_mono HO443.out (fun k_ hk => (⟨hk, hk.2⟩ : _ ∧ k_ ≠ gb457))) (fun _ hk => hk.2) (.int .i64 t449)) (fun _ hk => hk.2) (.slice Ao64 t450.length co64)) (fun _ hk => hk.2) (.slice Ao65 t453.length co65)) (fun _ h_ => h_.1))) hb); replace HO446 := aM (Kd.V_below (by (with_reducible repeat (first | apply Kd.V_alloc | apply Kd.V_drewN | apply Kd.V_drew)); exact (Kd.V_mono (Kd.V_far (p := ⟨gb457, 2, none⟩) (Kd.V_far (p := ⟨gb457, 1, none⟩) (Kd.V_far (p := ⟨gb457, 0, none⟩) (Kd.V_mono HO446.out (fun k_ hk => (⟨hk, hk.2⟩ : _ ∧ k_ ≠ gb457))) (fun _ hk => hk.2) (.int .i64 t449)) (fun _ hk => hk.2) (.slice Ao64 t450.length co64)) (fun _ hk => hk.2) (.slice Ao65 t453.length co65)) (fun _ h_ => h_.1))) hb); replace HO452 := aM (Kd.V_below (by (with_reducible repeat (first | apply Kd.V_alloc | apply Kd.V_drewN | apply Kd.V_drew)); exact (Kd.V_mono (Kd.V_far (p := ⟨gb457, 2, none⟩) (Kd.V_far (p := ⟨gb457, 1, none⟩) (Kd.V_far (p := ⟨gb457, 0, none⟩) (Kd.V_mono HO452.out (fun k_ hk => (⟨hk, hk.2⟩ : _ ∧ k_ ≠ gb457))) (fun _ hk => hk.2) (.int .i64 t449)) (fun _ hk => hk.2) (.slice Ao64 t450.length co64)) (fun _ hk => hk.2) (.slice Ao65 t453.length co65)) (fun _ h_ => h_.1))) hb); replace HO455 := aM (Kd.V_below (by (with_reducible repeat (first | apply Kd.V_alloc | apply Kd.V_drewN | apply Kd.V_drew)); exact (Kd.V_mono (Kd.V_far (p := ⟨gb457, 2, none⟩) (Kd.V_far (p := ⟨gb457, 1, none⟩) (Kd.V_far (p := ⟨gb457, 0, none⟩) (Kd.V_mono HO455.out (fun k_ hk => (⟨hk, hk.2⟩ : _ ∧ k_ ≠ gb457))) (fun _ hk => hk.2) (.int .i64 t449)) (fun _ hk => hk.2) (.slice Ao64 t450.length co64)) (fun _ hk => hk.2) (.slice Ao65 t453.length co65)) (fun _ h_ => h_.1))) hb); replace BK419 := aM (kB (g := gb419) (o := .cells #[.slice A0_0 l0_0.length c0_0, .slice A0_1 l0_1.length c0_1, .slice A0_2 l0_2.length c0_2] 26 (0, 0)) (by (with_reducible repeat (first | refine kN ?_ _ | refine kD ?_ | refine kA ?_ _)); refine blk_far ?_ NB419_457.out _; (with_reducible repeat (first | refine kN ?_ _ | refine kD ?_ | refine kA ?_ _)); refine blk_far ?_ NB419_457.out _; (with_reducible repeat (first | refine kN ?_ _ | refine kD ?_ | refine kA ?_ _)); refine blk_far ?_ NB419_457.out _; (with_reducible repeat (first | refine kN ?_ _ | refine kD ?_ | refine kA ?_ _)); exact BK419.out) hb); replace BK420 := aM (kB (g := gb420) (o := .cells #[.int .i64 a1_0, .int .i64 a1_1] 34 (0, 0)) (by (with_reducible repeat (first | refine kN ?_ _ | refine kD ?_ | refine kA ?_ _)); refine blk_far ?_ NB420_457.out _; (with_reducible repeat (first | refine kN ?_ _ | refine kD ?_ | refine kA ?_ _)); refine blk_far ?_ NB420_457.out _; (with_reducible repeat (first | refine kN ?_ _ | refine kD ?_ | refine kA ?_ _)); refine blk_far ?_ NB420_457.out _; (with_reducible repeat (first | refine kN ?_ _ | refine kD ?_ | refine kA ?_ _)); exact BK420.out) hb); replace HB := aM (bS (bl) hb); clear BK448 BK457; (try clear hb)))
       go_meet
       case rel => exact ⟨_, (!t458), (by first | rfl | (simp; done) | (simp [*]; done)), H', ⟨by have := HJ6.out; first | omega | exact Nat.le_refl _⟩, ⟨by (with_reducible repeat (first | refine kN ?_ _ | refine kD ?_ | refine kA ?_ _)); exact BK419.out⟩, ⟨by (with_reducible repeat (first | refine kN ?_ _ | refine kD ?_ | refine kA ?_ _)); exact BK420.out⟩, ⟨bl⟩⟩
     case rest =>
      clear HC44
      try clear c1
      try clear c2
      try clear p2
      try clear c3
      try clear c4
      try clear c5
      try clear c6
      try clear c7
      try clear c8
      try clear c10
      try clear c12
      try clear c13
      try clear c15
      try clear c16
      try clear c17
      try clear c18
      try clear c26
      try clear c27
      try clear c28
      try clear c31
      try clear c31b0
      try clear c31b1
      try clear c31b2
      try clear c33
      try clear c34
      try clear c35
      try clear c37
      try clear c38
      try clear c41
      try clear c45
      try clear c50
      try clear c51
      try clear c60
      try clear c61
      try clear c62
      try clear c66
      try clear c66b0
      try clear c66b1
      try clear c66b2
      try clear c68
      try clear c69
      try clear c70
      try clear c72
      try clear c73
      try clear hcz11_0 hcz11_1 hcz11_2 hfz11_0 hfz11_1 hfz11_2
      try clear hcz13_0 hcz13_1 hcz13_2 hfz13_0 hfz13_1 hfz13_2
      try clear hcz14_0 hcz14_1 hfz14_0 hfz14_1
      try clear hcz19_0 hcz19_1 hcz19_2 hcz19_3 hfz19_0 hfz19_1 hfz19_2 hfz19_3
      try clear hcz22_0 hcz22_1 hcz22_2 hfz22_0 hfz22_1 hfz22_2
      try clear hcz23_0 hcz23_1 hfz23_0 hfz23_1
      try clear hcz29_0 hcz29_1 hcz29_2 hcz29_3 hfz29_0 hfz29_1 hfz29_2 hfz29_3
      try clear hcz36_0 hcz36_1 hcz36_2 hcz36_3 hfz36_0 hfz36_1 hfz36_2 hfz36_3
      try clear hcz39_0 hcz39_1 hcz39_2 hcz39_3 hfz39_0 hfz39_1 hfz39_2 hfz39_3
      try clear hcz46_0 hcz46_1 hcz46_2 hfz46_0 hfz46_1 hfz46_2
      try clear hcz47_0 hcz47_1 hfz47_0 hfz47_1
      try clear hcz52_0 hcz52_1 hcz52_2 hfz52_0 hfz52_1 hfz52_2
      try clear hcz56_0 hcz56_1 hcz56_2 hfz56_0 hfz56_1 hfz56_2
      try clear hcz57_0 hcz57_1 hfz57_0 hfz57_1
      try clear hcz63_0 hcz63_1 hcz63_2 hfz63_0 hfz63_1 hfz63_2
      try clear hcz71_0 hcz71_1 hcz71_2 hfz71_0 hfz71_1 hfz71_2
      try clear hcz74_0 hcz74_1 hcz74_2 hfz74_0 hfz74_1 hfz74_2
      try clear p2
      obtain ⟨kq, x66_43, rfl, HA, HJ43, BK419, BK420, HB⟩ := hcut
      cases kq with
      | zero => exact absurd HA.out (by simp [mapmakerlaw14_DataFinds.j1])
      | succ kj43 =>
       have H := HA.out
       clear HA
       simp only [mapmakerlaw14_DataFinds.j1] at H
       by_cases c76 : x66_43 = true
       ·subst c76
        have H1 : (some false) = some r := by rw [if_pos rfl] at H; exact H
        clear H
        have H := H1
        clear H1
        obtain rfl := Option.some.inj H
        cases hT
       ·replace c76 := Bool.eq_false_iff.mpr c76
        subst c76
        have H1 : ((data_Rel.f l0_0 l0_1 l0_2 a1_1).bind fun bt459 => ((mapmakerref14_Rel.f kj43 l0_0 l0_1 l0_2 a1_1).bind fun bt468 => (if (bt459.2.2.2 != bt468.2.2.2) = true then (mapmakerlaw14_DataFinds.j2 kj43 true l0_0 l0_1 l0_2 a1_0 a1_1) else ((mapmakerref14_SameRel.f kj43 bt459.1 bt459.2.1 bt459.2.2.1 bt468.1 bt468.2.1 bt468.2.2.1).bind fun t477 => (mapmakerlaw14_DataFinds.j2 kj43 (!t477) l0_0 l0_1 l0_2 a1_0 a1_1))))) = some r := by rw [if_neg (show ¬ (false = true) by decide)] at H; exact H
        clear H
        have H := H1
        clear H1
        replace H := Option.bind_eq_some_iff.mp H
        obtain ⟨⟨t459, t460, t463, t466⟩, A770, H⟩ := H
        replace H : ((mapmakerref14_Rel.f kj43 l0_0 l0_1 l0_2 a1_1).bind fun bt468 => (if (t466 != bt468.2.2.2) = true then (mapmakerlaw14_DataFinds.j2 kj43 true l0_0 l0_1 l0_2 a1_0 a1_1) else ((mapmakerref14_SameRel.f kj43 t459 t460 t463 bt468.1 bt468.2.1 bt468.2.2.1).bind fun t477 => (mapmakerlaw14_DataFinds.j2 kj43 (!t477) l0_0 l0_1 l0_2 a1_0 a1_1)))) = some r := H
        have A77 := aM A770
        clear A770
        replace H := Option.bind_eq_some_iff.mp H
        obtain ⟨⟨t468, t469, t472, t475⟩, A780, H⟩ := H
        replace H : (if (t466 != t475) = true then (mapmakerlaw14_DataFinds.j2 kj43 true l0_0 l0_1 l0_2 a1_0 a1_1) else ((mapmakerref14_SameRel.f kj43 t459 t460 t463 t468 t469 t472).bind fun t477 => (mapmakerlaw14_DataFinds.j2 kj43 (!t477) l0_0 l0_1 l0_2 a1_0 a1_1))) = some r := H
        have A78 := aM A780
        clear A780
        have HC79 := aM H
        clear H
        have hnb80 := NB419_420.out
        have hnc80 := NB420_419.out
        obtain ⟨hcz81_0, hcz81_1, hcz81_2, hfz81_0, hfz81_1, hfz81_2⟩ := bc3 BK419
        obtain ⟨hcz82_0, hcz82_1, hfz82_0, hfz82_1⟩ := bc2 BK420
        go_upto_region 13 with (first | ((with_reducible refine gate_callee (f := 18) rfl ?_); refine gL (some 71) Try.func18 #[.agg #[.slice A0_0 l0_0.length c0_0, .slice A0_1 l0_1.length c0_1, .slice A0_2 l0_2.length c0_2], .int .i64 a1_1] ?_; (with_reducible refine (data_Rel.calls _ _ l0_0 _ _ l0_1 (fun k_ => k_ < w.heap.size) _ _ l0_2 a1_1 t459 t460 t463 t466 _ ?side1 ?side2 ?side3 ?side4 ?side5 A77.out).mono ?_); (case side1 => exact cl HR0_0); (case side2 => exact HC0_0.out); (case side3 => exact cl HR0_1); (case side4 => exact HC0_1.out); (case side5 => exact Kd.V_mk HC0_2.out (Kd.F_below (Kd.C_F k51_heap HR0_2.out) (bl))); rintro e w83 ⟨v461, v464, rfl, ho0, ho1, hb⟩; refine ⟨_, rfl, ?_⟩; have HO462 := aM (Kd.V_lower (Kd.V_mono (ok' := fun k_ => k_ ≠ gb419 ∧ k_ ≠ gb420) ho0 (fun k_ hk_ => ⟨Or.elim hk_ (fun hs_ => fun e_ => Nat.not_le.2 hs_ (by rw [e_]; exact GW419.out)) (fun hn_ => (Kd.freshB (kl BK419) k_ hn_)), Or.elim hk_ (fun hs_ => fun e_ => Nat.not_le.2 hs_ (by rw [e_]; exact GW420.out)) (fun hn_ => (Kd.freshB (kl BK420) k_ hn_))⟩)) (below_size (bl))); have HO465 := aM (Kd.V_lower (Kd.V_mono (ok' := fun k_ => k_ ≠ gb419 ∧ k_ ≠ gb420) ho1 (fun k_ hk_ => ⟨Or.elim hk_ (fun hs_ => fun e_ => Nat.not_le.2 hs_ (by rw [e_]; exact GW419.out)) (fun hn_ => (Kd.freshB (kl BK419) k_ hn_)), Or.elim hk_ (fun hs_ => fun e_ => Nat.not_le.2 hs_ (by rw [e_]; exact GW420.out)) (fun hn_ => (Kd.freshB (kl BK420) k_ hn_))⟩)) (below_size (bl))); replace BK419 := aM (kB (kl BK419) hb); replace BK420 := aM (kB (kl BK420) hb); replace HB := aM (bS (bl) hb); (try clear hb); (try clear ho0); (try clear ho1)) | ((with_reducible refine gate_dst (N := 13) rfl ?_); refine bx (N := 13) (cs := #[.int .i64 0, .slice none 0 0, .slice none 0 0]) (t := 51) ?_; intro gb467 hg w84 hbox hb; have BK467 := aM (hbox); have GW467 := aM (gw (w := w) hg); have GE467 := aM (gw (w := w) hg); have NB419_467 := aM (nb BK419 hg); have NB467_419 := aM (nb BK419 hg).symm; have NB420_467 := aM (nb BK420 hg); have NB467_420 := aM (nb BK420 hg).symm; replace HO462 := aM (Kd.V_below (Kd.V_elderB (by (with_reducible repeat (first | apply Kd.V_alloc | apply Kd.V_drewN | apply Kd.V_drew)); exact HO462.out) gb467 (Nat.le_of_eq hg.symm)) hb); replace HO465 := aM (Kd.V_below (Kd.V_elderB (by (with_reducible repeat (first | apply Kd.V_alloc | apply Kd.V_drewN | apply Kd.V_drew)); exact HO465.out) gb467 (Nat.le_of_eq hg.symm)) hb); replace BK419 := aM (kB (kl BK419) hb); replace BK420 := aM (kB (kl BK420) hb); replace HB := aM (bS (bl) hb); clear hb hbox hg; have hnb85 := NB467_419.out; have hnc85 := NB419_467.out; have hnb86 := NB467_420.out; have hnc86 := NB420_467.out; obtain ⟨hcz87_0, hcz87_1, hcz87_2, hfz87_0, hfz87_1, hfz87_2⟩ := bc3 BK467; obtain ⟨Ao88, co88, eo88⟩ := Kd.V_slice HO462.out; subst eo88; obtain ⟨Ao89, co89, eo89⟩ := Kd.V_slice HO465.out; subst eo89) | ((with_reducible refine gate_store (t := 51) (p := 13) rfl ?_); refine store_event (t := 51) (p := 13) (v := ?vo_w90) (w1 := (((w84.setCell ⟨gb467, 0, none⟩ (.int .i64 t459)).setCell ⟨gb467, 1, none⟩ (.slice Ao88 t460.length co88)).setCell ⟨gb467, 2, none⟩ (.slice Ao89 t463.length co89))) ?hg ?ho ?hn ?hr ?_; (case ho => rfl); (case hg => rfl); (case hn => rfl); (case hr => first | (go_simp; done) | (go_simp; rfl)); intro w90 hw; have n0_ : Aside0 (Kd.V k67 67 w90 w.heap.size (fun k_ => k_ ≠ gb419 ∧ k_ ≠ gb420 ∧ k_ ≠ gb467) (.slice Ao88 t460.length co88) t460) := ⟨(by rw [hw]; exact (by (with_reducible repeat (first | apply Kd.V_alloc | apply Kd.V_drewN | apply Kd.V_drew)); exact Kd.V_mono (Kd.V_far (p := ⟨gb467, 2, none⟩) (Kd.V_far (p := ⟨gb467, 1, none⟩) (Kd.V_far (p := ⟨gb467, 0, none⟩) (Kd.V_mono HO462.out (fun k_ hk => (⟨hk, hk.2⟩ : _ ∧ k_ ≠ gb467))) (fun _ hk => hk.2) (.int .i64 t459)) (fun _ hk => hk.2) (.slice Ao88 t460.length co88)) (fun _ hk => hk.2) (.slice Ao89 t463.length co89)) (fun _ hk => ⟨hk.1.1.1, ⟨hk.1.1.2, hk.1.2⟩⟩)))⟩; have n1_ : Aside0 (Kd.V k70 70 w90 w.heap.size (fun k_ => k_ ≠ gb419 ∧ k_ ≠ gb420 ∧ k_ ≠ gb467) (.slice Ao89 t463.length co89) t463) := ⟨(by rw [hw]; exact (by (with_reducible repeat (first | apply Kd.V_alloc | apply Kd.V_drewN | apply Kd.V_drew)); exact Kd.V_mono (Kd.V_far (p := ⟨gb467, 2, none⟩) (Kd.V_far (p := ⟨gb467, 1, none⟩) (Kd.V_far (p := ⟨gb467, 0, none⟩) (Kd.V_mono HO465.out (fun k_ hk => (⟨hk, hk.2⟩ : _ ∧ k_ ≠ gb467))) (fun _ hk => hk.2) (.int .i64 t459)) (fun _ hk => hk.2) (.slice Ao88 t460.length co88)) (fun _ hk => hk.2) (.slice Ao89 t463.length co89)) (fun _ hk => ⟨hk.1.1.1, ⟨hk.1.1.2, hk.1.2⟩⟩)))⟩; have n2_ : Aside0 (w90.heap[gb419]? = some (.cells #[.slice A0_0 l0_0.length c0_0, .slice A0_1 l0_1.length c0_1, .slice A0_2 l0_2.length c0_2] 26 (0, 0))) := ⟨(by rw [hw]; exact (by (with_reducible repeat (first | refine kN ?_ _ | refine kD ?_ | refine kA ?_ _)); refine blk_far ?_ NB419_467.out _; (with_reducible repeat (first | refine kN ?_ _ | refine kD ?_ | refine kA ?_ _)); refine blk_far ?_ NB419_467.out _; (with_reducible repeat (first | refine kN ?_ _ | refine kD ?_ | refine kA ?_ _)); refine blk_far ?_ NB419_467.out _; (with_reducible repeat (first | refine kN ?_ _ | refine kD ?_ | refine kA ?_ _)); exact BK419.out))⟩; have n3_ : Aside0 (w90.heap[gb420]? = some (.cells #[.int .i64 a1_0, .int .i64 a1_1] 34 (0, 0))) := ⟨(by rw [hw]; exact (by (with_reducible repeat (first | refine kN ?_ _ | refine kD ?_ | refine kA ?_ _)); refine blk_far ?_ NB420_467.out _; (with_reducible repeat (first | refine kN ?_ _ | refine kD ?_ | refine kA ?_ _)); refine blk_far ?_ NB420_467.out _; (with_reducible repeat (first | refine kN ?_ _ | refine kD ?_ | refine kA ?_ _)); refine blk_far ?_ NB420_467.out _; (with_reducible repeat (first | refine kN ?_ _ | refine kD ?_ | refine kA ?_ _)); exact BK420.out))⟩; have n4_ : Aside0 (w90.heap[gb467]? = some (.cells #[.int .i64 t459, .slice Ao88 t460.length co88, .slice Ao89 t463.length co89] 51 (0, 0))) := ⟨(by rw [hw]; exact (by (with_reducible repeat (first | refine kN ?_ _ | refine kD ?_ | refine kA ?_ _)); refine kP (cs := #[.int .i64 t459, .slice Ao88 t460.length co88, .slice none 0 0]) ?_ 2 _ rfl; (with_reducible repeat (first | refine kN ?_ _ | refine kD ?_ | refine kA ?_ _)); refine kP (cs := #[.int .i64 t459, .slice none 0 0, .slice none 0 0]) ?_ 1 _ rfl; (with_reducible repeat (first | refine kN ?_ _ | refine kD ?_ | refine kA ?_ _)); refine kP (cs := #[.int .i64 0, .slice none 0 0, .slice none 0 0]) ?_ 0 _ rfl; (with_reducible repeat (first | refine kN ?_ _ | refine kD ?_ | refine kA ?_ _)); exact BK467.out))⟩; have n5_ : Aside0 (Below w.heap.size w w90) := ⟨(by rw [hw]; exact (bl))⟩; clear hw HO462 HO465 BK419 BK420 BK467 HB; have HO462 := n0_; have HO465 := n1_; have BK419 := n2_; have BK420 := n3_; have BK467 := n4_; have HB := n5_; clear n0_ n1_ n2_ n3_ n4_ n5_; obtain ⟨hcz91_0, hcz91_1, hcz91_2, hfz91_0, hfz91_1, hfz91_2⟩ := bc3 BK419; obtain ⟨hcz92_0, hcz92_1, hfz92_0, hfz92_1⟩ := bc2 BK420) | ((with_reducible refine gate_callee (f := 19) rfl ?_); refine gL (some 78) Try.func19 #[.agg #[.slice A0_0 l0_0.length c0_0, .slice A0_1 l0_1.length c0_1, .slice A0_2 l0_2.length c0_2], .int .i64 a1_1] ?_; (with_reducible refine (mapmakerref14_Rel.calls kj43 _ _ l0_0 _ _ l0_1 (fun k_ => k_ < w.heap.size) _ _ l0_2 a1_1 t468 t469 t472 t475 _ ?side1 ?side2 ?side3 ?side4 ?side5 A78.out).mono ?_); (case side1 => exact cl HR0_0); (case side2 => exact HC0_0.out); (case side3 => exact cl HR0_1); (case side4 => exact HC0_1.out); (case side5 => exact Kd.V_mk HC0_2.out (Kd.F_below (Kd.C_F k51_heap HR0_2.out) (bl))); rintro e w93 ⟨v470, v473, rfl, ho0, ho1, hb⟩; refine ⟨_, rfl, ?_⟩; replace HO462 := aM (Kd.V_below (by (with_reducible repeat (first | apply Kd.V_alloc | apply Kd.V_drewN | apply Kd.V_drew)); exact HO462.out) hb); replace HO465 := aM (Kd.V_below (by (with_reducible repeat (first | apply Kd.V_alloc | apply Kd.V_drewN | apply Kd.V_drew)); exact HO465.out) hb); have HO471 := aM (Kd.V_lower (Kd.V_mono (ok' := fun k_ => k_ ≠ gb419 ∧ k_ ≠ gb420 ∧ k_ ≠ gb467) ho0 (fun k_ hk_ => ⟨Or.elim hk_ (fun hs_ => fun e_ => Nat.not_le.2 hs_ (by rw [e_]; exact GW419.out)) (fun hn_ => (Kd.freshB (kl BK419) k_ hn_)), Or.elim hk_ (fun hs_ => fun e_ => Nat.not_le.2 hs_ (by rw [e_]; exact GW420.out)) (fun hn_ => (Kd.freshB (kl BK420) k_ hn_)), Or.elim hk_ (fun hs_ => fun e_ => Nat.not_le.2 hs_ (by rw [e_]; exact GW467.out)) (fun hn_ => (Kd.freshB (kl BK467) k_ hn_))⟩)) (below_size (bl))); have HO474 := aM (Kd.V_lower (Kd.V_mono (ok' := fun k_ => k_ ≠ gb419 ∧ k_ ≠ gb420 ∧ k_ ≠ gb467) ho1 (fun k_ hk_ => ⟨Or.elim hk_ (fun hs_ => fun e_ => Nat.not_le.2 hs_ (by rw [e_]; exact GW419.out)) (fun hn_ => (Kd.freshB (kl BK419) k_ hn_)), Or.elim hk_ (fun hs_ => fun e_ => Nat.not_le.2 hs_ (by rw [e_]; exact GW420.out)) (fun hn_ => (Kd.freshB (kl BK420) k_ hn_)), Or.elim hk_ (fun hs_ => fun e_ => Nat.not_le.2 hs_ (by rw [e_]; exact GW467.out)) (fun hn_ => (Kd.freshB (kl BK467) k_ hn_))⟩)) (below_size (bl))); replace BK419 := aM (kB (kl BK419) hb); replace BK420 := aM (kB (kl BK420) hb); replace BK467 := aM (kB (kl BK467) hb); replace HB := aM (bS (bl) hb); (try clear hb); (try clear ho0); (try clear ho1)) | ((with_reducible refine gate_dst (N := 15) rfl ?_); refine bx (N := 15) (cs := #[.int .i64 0, .slice none 0 0, .slice none 0 0]) (t := 51) ?_; intro gb476 hg w94 hbox hb; have n0_ := aM (Kd.V_below (Kd.V_elderB (by (with_reducible repeat (first | apply Kd.V_alloc | apply Kd.V_drewN | apply Kd.V_drew)); exact HO462.out) gb476 (Nat.le_of_eq hg.symm)) hb); have n1_ := aM (Kd.V_below (Kd.V_elderB (by (with_reducible repeat (first | apply Kd.V_alloc | apply Kd.V_drewN | apply Kd.V_drew)); exact HO465.out) gb476 (Nat.le_of_eq hg.symm)) hb); have n2_ := aM (Kd.V_below (Kd.V_elderB (by (with_reducible repeat (first | apply Kd.V_alloc | apply Kd.V_drewN | apply Kd.V_drew)); exact HO471.out) gb476 (Nat.le_of_eq hg.symm)) hb); have n3_ := aM (Kd.V_below (Kd.V_elderB (by (with_reducible repeat (first | apply Kd.V_alloc | apply Kd.V_drewN | apply Kd.V_drew)); exact HO474.out) gb476 (Nat.le_of_eq hg.symm)) hb); have n4_ := aM (kB (kl BK419) hb); have n5_ := aM (kB (kl BK420) hb); have n6_ := aM (kB (kl BK467) hb); have n7_ := aM (bS (bl) hb); have n8_ := aM (hbox); have n10_ := aM (gw (w := w) hg); have n11_ := aM (nb BK419 hg); have n12_ := aM (nb BK419 hg).symm; have n13_ := aM (nb BK420 hg); have n14_ := aM (nb BK420 hg).symm; have n15_ := aM (nb BK467 hg); have n16_ := aM (nb BK467 hg).symm; (try clear HO462); (try clear HO465); (try clear HO471); (try clear HO474); (try clear BK419); (try clear BK420); (try clear BK467); (try clear HB); have HO462 := n0_; have HO465 := n1_; have HO471 := n2_; have HO474 := n3_; have BK419 := n4_; have BK420 := n5_; have BK467 := n6_; have HB := n7_; have BK476 := n8_; have GE476 := n10_; have NB419_476 := n11_; have NB476_419 := n12_; have NB420_476 := n13_; have NB476_420 := n14_; have NB467_476 := n15_; have NB476_467 := n16_; clear n0_ n1_ n2_ n3_ n4_ n5_ n6_ n7_ n8_ n10_ n11_ n12_ n13_ n14_ n15_ n16_ hb hbox hg; have hnb95 := NB476_419.out; have hnc95 := NB419_476.out; have hnb96 := NB476_420.out; have hnc96 := NB420_476.out; have hnb97 := NB476_467.out; have hnc97 := NB467_476.out; obtain ⟨hcz98_0, hcz98_1, hcz98_2, hfz98_0, hfz98_1, hfz98_2⟩ := bc3 BK476; obtain ⟨Ao99, co99, eo99⟩ := Kd.V_slice HO471.out; subst eo99; obtain ⟨Ao100, co100, eo100⟩ := Kd.V_slice HO474.out; subst eo100))
        (try simp only [Act.put, sA, sB, sC])
        go_cut [89] (fun v89 wc => ∃ (kq : Nat) (x89_78 : Bool), v89 = .bool x89_78 ∧ Aside0 (mapmakerlaw14_DataFinds.j2 kq x89_78 l0_0 l0_1 l0_2 a1_0 a1_1 = some r) ∧ Aside0 (kq ≤ kj43) ∧ Aside0 (wc.heap[gb419]? = some (.cells #[(.slice A0_0 l0_0.length c0_0), (.slice A0_1 l0_1.length c0_1), (.slice A0_2 l0_2.length c0_2)] 26 (0, 0))) ∧ Aside0 (wc.heap[gb420]? = some (.cells #[.int .i64 a1_0, .int .i64 a1_1] 34 (0, 0))) ∧ Aside0 (Below w.heap.size w wc))
        case first =>
         have H := HC79.out
         clear HC79
         by_cases c101 : (t466 != t475) = true
         ·rw [if_pos c101] at H
          have c101b0 : (t466 != t475) = true := c101
          (try (have c101b1 : decide (t466 = t475) = false := by simpa using c101))
          (try (have c101b2 : (t466 == t475) = false := by simpa using c101))
          (try (have c101b3 : ¬ (t466 = t475) := by simpa using c101))
          clear c101
          (first | rw [c101b0] | (simp only [i64_w, i32_w]; rw [c101b0]) | skip)
          have H' := aM H
          clear H
          go_wp2
          go_meet
          case rel => exact ⟨_, (true), (by first | rfl | (simp; done) | (simp [*]; done)), H', ⟨by have := HJ6.out; have := HJ43.out; first | omega | exact Nat.le_refl _⟩, ⟨by (with_reducible repeat (first | refine kN ?_ _ | refine kD ?_ | refine kA ?_ _)); refine blk_far ?_ NB419_476.out _; (with_reducible repeat (first | refine kN ?_ _ | refine kD ?_ | refine kA ?_ _)); refine blk_far ?_ NB419_476.out _; (with_reducible repeat (first | refine kN ?_ _ | refine kD ?_ | refine kA ?_ _)); refine blk_far ?_ NB419_476.out _; (with_reducible repeat (first | refine kN ?_ _ | refine kD ?_ | refine kA ?_ _)); exact BK419.out⟩, ⟨by (with_reducible repeat (first | refine kN ?_ _ | refine kD ?_ | refine kA ?_ _)); refine blk_far ?_ NB420_476.out _; (with_reducible repeat (first | refine kN ?_ _ | refine kD ?_ | refine kA ?_ _)); refine blk_far ?_ NB420_476.out _; (with_reducible repeat (first | refine kN ?_ _ | refine kD ?_ | refine kA ?_ _)); refine blk_far ?_ NB420_476.out _; (with_reducible repeat (first | refine kN ?_ _ | refine kD ?_ | refine kA ?_ _)); exact BK420.out⟩, ⟨bl⟩⟩
         ·rw [if_neg c101] at H
          have c101b0 : (t466 != t475) = false := by simpa using c101
          (try (have c101b1 : decide (t466 = t475) = true := by simpa using c101))
          (try (have c101b2 : (t466 == t475) = true := by simpa using c101))
          clear c101
          (first | rw [c101b0] | (simp only [i64_w, i32_w]; rw [c101b0]) | skip)
          replace H := Option.bind_eq_some_iff.mp H
          obtain ⟨t477, A1020, H⟩ := H
          try dsimp only at H
          have A102 := aM A1020
          clear A1020
          have H' := aM H
          clear H
          have hnb103 := NB467_419.out
          have hnc103 := NB419_467.out
          have hnb104 := NB467_420.out
          have hnc104 := NB420_467.out
          have hnb105 := NB467_476.out
          have hnc105 := NB476_467.out
          obtain ⟨hcz106_0, hcz106_1, hcz106_2, hfz106_0, hfz106_1, hfz106_2⟩ := bc3 BK467
          have hnb107 := NB476_419.out
          have hnc107 := NB419_476.out
          have hnb108 := NB476_420.out
          have hnc108 := NB420_476.out
          obtain ⟨hcz109_0, hcz109_1, hcz109_2, hfz109_0, hfz109_1, hfz109_2⟩ := bc3 BK476
          go_wp2_with (first | (go_at_call 20; (with_reducible refine (mapmakerref14_SameRel.calls kj43 t459 _ _ t460 _ _ t463 t468 _ _ t469 _ _ t472 t477 _ ?side1 ?side2 ?side3 ?side4 ?side5 ?side6 ?side7 ?side8 A102.out).mono ?_); (case side1 => refine (Kd.V_reads' (e := 67) (base := w.heap.size) (ok := fun k_ => ((k_ ≠ gb419 ∧ (k_ ≠ gb420 ∧ k_ ≠ gb467)) ∧ k_ ≠ gb476)) (n := t460.length) (c := co88) ?_).2.2; exact (by (with_reducible repeat (first | apply Kd.V_alloc | apply Kd.V_drewN | apply Kd.V_drew)); exact (Kd.V_mono (Kd.V_far (p := ⟨gb476, 2, none⟩) (Kd.V_far (p := ⟨gb476, 1, none⟩) (Kd.V_far (p := ⟨gb476, 0, none⟩) (Kd.V_mono HO462.out (fun k_ hk => (⟨hk, hk.2⟩ : _ ∧ k_ ≠ gb476))) (fun _ hk => hk.2) (.int .i64 t468)) (fun _ hk => hk.2) (.slice Ao99 t469.length co99)) (fun _ hk => hk.2) (.slice Ao100 t472.length co100)) (fun _ h_ => h_.1)))); (case side2 => exact (Kd.V_reads' HO462.out).2.1); (case side3 => refine (Kd.V_reads' (e := 70) (base := w.heap.size) (ok := fun k_ => ((k_ ≠ gb419 ∧ (k_ ≠ gb420 ∧ k_ ≠ gb467)) ∧ k_ ≠ gb476)) (n := t463.length) (c := co89) ?_).2.2; exact (by (with_reducible repeat (first | apply Kd.V_alloc | apply Kd.V_drewN | apply Kd.V_drew)); exact (Kd.V_mono (Kd.V_far (p := ⟨gb476, 2, none⟩) (Kd.V_far (p := ⟨gb476, 1, none⟩) (Kd.V_far (p := ⟨gb476, 0, none⟩) (Kd.V_mono HO465.out (fun k_ hk => (⟨hk, hk.2⟩ : _ ∧ k_ ≠ gb476))) (fun _ hk => hk.2) (.int .i64 t468)) (fun _ hk => hk.2) (.slice Ao99 t469.length co99)) (fun _ hk => hk.2) (.slice Ao100 t472.length co100)) (fun _ h_ => h_.1)))); (case side4 => exact (Kd.V_reads' HO465.out).2.1); (case side5 => refine (Kd.V_reads' (e := 67) (base := w.heap.size) (ok := fun k_ => ((k_ ≠ gb419 ∧ (k_ ≠ gb420 ∧ k_ ≠ gb467)) ∧ k_ ≠ gb476)) (n := t469.length) (c := co99) ?_).2.2; exact (by (with_reducible repeat (first | apply Kd.V_alloc | apply Kd.V_drewN | apply Kd.V_drew)); exact (Kd.V_mono (Kd.V_far (p := ⟨gb476, 2, none⟩) (Kd.V_far (p := ⟨gb476, 1, none⟩) (Kd.V_far (p := ⟨gb476, 0, none⟩) (Kd.V_mono HO471.out (fun k_ hk => (⟨hk, hk.2⟩ : _ ∧ k_ ≠ gb476))) (fun _ hk => hk.2) (.int .i64 t468)) (fun _ hk => hk.2) (.slice Ao99 t469.length co99)) (fun _ hk => hk.2) (.slice Ao100 t472.length co100)) (fun _ h_ => h_.1)))); (case side6 => exact (Kd.V_reads' HO471.out).2.1); (case side7 => refine (Kd.V_reads' (e := 70) (base := w.heap.size) (ok := fun k_ => ((k_ ≠ gb419 ∧ (k_ ≠ gb420 ∧ k_ ≠ gb467)) ∧ k_ ≠ gb476)) (n := t472.length) (c := co100) ?_).2.2; exact (by (with_reducible repeat (first | apply Kd.V_alloc | apply Kd.V_drewN | apply Kd.V_drew)); exact (Kd.V_mono (Kd.V_far (p := ⟨gb476, 2, none⟩) (Kd.V_far (p := ⟨gb476, 1, none⟩) (Kd.V_far (p := ⟨gb476, 0, none⟩) (Kd.V_mono HO474.out (fun k_ hk => (⟨hk, hk.2⟩ : _ ∧ k_ ≠ gb476))) (fun _ hk => hk.2) (.int .i64 t468)) (fun _ hk => hk.2) (.slice Ao99 t469.length co99)) (fun _ hk => hk.2) (.slice Ao100 t472.length co100)) (fun _ h_ => h_.1)))); (case side8 => exact (Kd.V_reads' HO474.out).2.1); rintro e w110 ⟨rfl, hb⟩; replace HO462 := aM (Kd.V_below (by (with_reducible repeat (first | apply Kd.V_alloc | apply Kd.V_drewN | apply Kd.V_drew)); exact (Kd.V_mono (Kd.V_far (p := ⟨gb476, 2, none⟩) (Kd.V_far (p := ⟨gb476, 1, none⟩) (Kd.V_far (p := ⟨gb476, 0, none⟩) (Kd.V_mono HO462.out (fun k_ hk => (⟨hk, hk.2⟩ : _ ∧ k_ ≠ gb476))) (fun _ hk => hk.2) (.int .i64 t468)) (fun _ hk => hk.2) (.slice Ao99 t469.length co99)) (fun _ hk => hk.2) (.slice Ao100 t472.length co100)) (fun _ h_ => h_.1))) hb); replace HO465 := aM (Kd.V_below (by (with_reducible repeat (first | apply Kd.V_alloc | apply Kd.V_drewN | apply Kd.V_drew)); exact (Kd.V_mono (Kd.V_far (p := ⟨gb476, 2, none⟩) (Kd.V_far (p := ⟨gb476, 1, none⟩) (Kd.V_far (p := ⟨gb476, 0, none⟩) (Kd.V_mono HO465.out (fun k_ hk => (⟨hk, hk.2⟩ : _ ∧ k_ ≠ gb476))) (fun _ hk => hk.2) (.int .i64 t468)) (fun _ hk => hk.2) (.slice Ao99 t469.length co99)) (fun _ hk => hk.2) (.slice Ao100 t472.length co100)) (fun _ h_ => h_.1))) hb); replace HO471 := aM (Kd.V_below (by (with_reducible repeat (first | apply Kd.V_alloc | apply Kd.V_drewN | apply Kd.V_drew)); exact (Kd.V_mono (Kd.V_far (p := ⟨gb476, 2, none⟩) (Kd.V_far (p := ⟨gb476, 1, none⟩) (Kd.V_far (p := ⟨gb476, 0, none⟩) (Kd.V_mono HO471.out (fun k_ hk => (⟨hk, hk.2⟩ : _ ∧ k_ ≠ gb476))) (fun _ hk => hk.2) (.int .i64 t468)) (fun _ hk => hk.2) (.slice Ao99 t469.length co99)) (fun _ hk => hk.2) (.slice Ao100 t472.length co100)) (fun _ h_ => h_.1))) hb); replace HO474 := aM (Kd.V_below (by (with_reducible repeat (first | apply Kd.V_alloc | apply Kd.V_drewN | apply Kd.V_drew)); exact (Kd.V_mono (Kd.V_far (p := ⟨gb476, 2, none⟩) (Kd.V_far (p := ⟨gb476, 1, none⟩) (Kd.V_far (p := ⟨gb476, 0, none⟩) (Kd.V_mono HO474.out (fun k_ hk => (⟨hk, hk.2⟩ : _ ∧ k_ ≠ gb476))) (fun _ hk => hk.2) (.int .i64 t468)) (fun _ hk => hk.2) (.slice Ao99 t469.length co99)) (fun _ hk => hk.2) (.slice Ao100 t472.length co100)) (fun _ h_ => h_.1))) hb); replace BK419 := aM (kB (g := gb419) (o := .cells #[.slice A0_0 l0_0.length c0_0, .slice A0_1 l0_1.length c0_1, .slice A0_2 l0_2.length c0_2] 26 (0, 0)) (by (with_reducible repeat (first | refine kN ?_ _ | refine kD ?_ | refine kA ?_ _)); refine blk_far ?_ NB419_476.out _; (with_reducible repeat (first | refine kN ?_ _ | refine kD ?_ | refine kA ?_ _)); refine blk_far ?_ NB419_476.out _; (with_reducible repeat (first | refine kN ?_ _ | refine kD ?_ | refine kA ?_ _)); refine blk_far ?_ NB419_476.out _; (with_reducible repeat (first | refine kN ?_ _ | refine kD ?_ | refine kA ?_ _)); exact BK419.out) hb); replace BK420 := aM (kB (g := gb420) (o := .cells #[.int .i64 a1_0, .int .i64 a1_1] 34 (0, 0)) (by (with_reducible repeat (first | refine kN ?_ _ | refine kD ?_ | refine kA ?_ _)); refine blk_far ?_ NB420_476.out _; (with_reducible repeat (first | refine kN ?_ _ | refine kD ?_ | refine kA ?_ _)); refine blk_far ?_ NB420_476.out _; (with_reducible repeat (first | refine kN ?_ _ | refine kD ?_ | refine kA ?_ _)); refine blk_far ?_ NB420_476.out _; (with_reducible repeat (first | refine kN ?_ _ | refine kD ?_ | refine kA ?_ _)); exact BK420.out) hb); replace HB := aM (bS (bl) hb); clear BK467 BK476; (try clear hb)))
          go_meet
          case rel => exact ⟨_, (!t477), (by first | rfl | (simp; done) | (simp [*]; done)), H', ⟨by have := HJ6.out; have := HJ43.out; first | omega | exact Nat.le_refl _⟩, ⟨by (with_reducible repeat (first | refine kN ?_ _ | refine kD ?_ | refine kA ?_ _)); exact BK419.out⟩, ⟨by (with_reducible repeat (first | refine kN ?_ _ | refine kD ?_ | refine kA ?_ _)); exact BK420.out⟩, ⟨bl⟩⟩
        case rest =>
         clear HC79
         try clear c1
         try clear c2
         try clear p2
         try clear c3
         try clear c4
         try clear c5
         try clear c6
         try clear c7
         try clear c8
         try clear c9
         try clear c10
         try clear c12
         try clear c13
         try clear c15
         try clear c16
         try clear c17
         try clear c18
         try clear c19
         try clear c26
         try clear c27
         try clear c28
         try clear c31
         try clear c31b0
         try clear c31b1
         try clear c31b2
         try clear c33
         try clear c34
         try clear c35
         try clear c37
         try clear c38
         try clear c41
         try clear c45
         try clear c50
         try clear c51
         try clear c60
         try clear c61
         try clear c62
         try clear c66
         try clear c66b0
         try clear c66b1
         try clear c66b2
         try clear c68
         try clear c69
         try clear c70
         try clear c72
         try clear c73
         try clear c76
         try clear c80
         try clear c85
         try clear c86
         try clear c95
         try clear c96
         try clear c97
         try clear c101
         try clear c101b0
         try clear c101b1
         try clear c101b2
         try clear c103
         try clear c104
         try clear c105
         try clear c107
         try clear c108
         try clear hcz106_0 hcz106_1 hcz106_2 hfz106_0 hfz106_1 hfz106_2
         try clear hcz109_0 hcz109_1 hcz109_2 hfz109_0 hfz109_1 hfz109_2
         try clear hcz11_0 hcz11_1 hcz11_2 hfz11_0 hfz11_1 hfz11_2
         try clear hcz13_0 hcz13_1 hcz13_2 hfz13_0 hfz13_1 hfz13_2
         try clear hcz14_0 hcz14_1 hfz14_0 hfz14_1
         try clear hcz19_0 hcz19_1 hcz19_2 hcz19_3 hfz19_0 hfz19_1 hfz19_2 hfz19_3
         try clear hcz22_0 hcz22_1 hcz22_2 hfz22_0 hfz22_1 hfz22_2
         try clear hcz23_0 hcz23_1 hfz23_0 hfz23_1
         try clear hcz29_0 hcz29_1 hcz29_2 hcz29_3 hfz29_0 hfz29_1 hfz29_2 hfz29_3
         try clear hcz36_0 hcz36_1 hcz36_2 hcz36_3 hfz36_0 hfz36_1 hfz36_2 hfz36_3
         try clear hcz39_0 hcz39_1 hcz39_2 hcz39_3 hfz39_0 hfz39_1 hfz39_2 hfz39_3
         try clear hcz46_0 hcz46_1 hcz46_2 hfz46_0 hfz46_1 hfz46_2
         try clear hcz47_0 hcz47_1 hfz47_0 hfz47_1
         try clear hcz52_0 hcz52_1 hcz52_2 hfz52_0 hfz52_1 hfz52_2
         try clear hcz56_0 hcz56_1 hcz56_2 hfz56_0 hfz56_1 hfz56_2
         try clear hcz57_0 hcz57_1 hfz57_0 hfz57_1
         try clear hcz63_0 hcz63_1 hcz63_2 hfz63_0 hfz63_1 hfz63_2
         try clear hcz71_0 hcz71_1 hcz71_2 hfz71_0 hfz71_1 hfz71_2
         try clear hcz74_0 hcz74_1 hcz74_2 hfz74_0 hfz74_1 hfz74_2
         try clear hcz81_0 hcz81_1 hcz81_2 hfz81_0 hfz81_1 hfz81_2
         try clear hcz82_0 hcz82_1 hfz82_0 hfz82_1
         try clear hcz87_0 hcz87_1 hcz87_2 hfz87_0 hfz87_1 hfz87_2
         try clear hcz91_0 hcz91_1 hcz91_2 hfz91_0 hfz91_1 hfz91_2
         try clear hcz92_0 hcz92_1 hfz92_0 hfz92_1
         try clear hcz98_0 hcz98_1 hcz98_2 hfz98_0 hfz98_1 hfz98_2
         try clear p2
         obtain ⟨kq, x89_78, rfl, HA, HJ78, BK419, BK420, HB⟩ := hcut
         cases kq with
         | zero => exact absurd HA.out (by simp [mapmakerlaw14_DataFinds.j2])
         | succ kj78 =>
          have H := HA.out
          clear HA
          simp only [mapmakerlaw14_DataFinds.j2] at H
          by_cases c111 : x89_78 = true
          ·subst c111
           have H1 : (some false) = some r := by rw [if_pos rfl] at H; exact H
           clear H
           have H := H1
           clear H1
           obtain rfl := Option.some.inj H
           cases hT
          ·replace c111 := Bool.eq_false_iff.mpr c111
           subst c111
           have H1 : ((data_Has.f kj78 l0_0 l0_1 l0_2 a1_0 a1_1).bind fun t478 => ((mapmakerref14_Has.f kj78 l0_0 l0_1 l0_2 a1_0 a1_1).bind fun t479 => (if (t478 == t479) = true then ((data_Users.f kj78 l0_0 l0_1 l0_2 a1_0 a1_1).bind fun t480 => ((mapmakerref14_Users.f kj78 l0_0 l0_1 l0_2 a1_0 a1_1).bind fun t483 => ((mapmakerref14_SameRefs.f kj78 t480 t483).bind fun t486 => (if t486 = true then ((data_Refs.f kj78 l0_0 l0_1 l0_2).bind fun t487 => ((mapmakerref14_Refs.f kj78 l0_0 l0_1 l0_2).bind fun t490 => ((mapmakerref14_SameRefs.f kj78 t487 t490).bind fun t493 => (if t493 = true then ((data_Tags.f l0_0 l0_1 l0_2 a1_0 a1_1).bind fun t494 => ((mapmakerref14_Tags.f kj78 l0_0 l0_1 l0_2 a1_0 a1_1).bind fun t497 => ((mapmakerref14_SameTags.f kj78 t494 t497).bind fun t500 => (if t500 = true then ((mapmakerlaw14_lives.f kj78).bind fun t501 => (some t501)) else (some false))))) else (some false))))) else (some false))))) else (some false)))) = some r := by rw [if_neg (show ¬ (false = true) by decide)] at H; exact H
           clear H
           have H := H1
           clear H1
           replace H := Option.bind_eq_some_iff.mp H
           obtain ⟨t478, A1120, H⟩ := H
           try dsimp only at H
           have A112 := aM A1120
           clear A1120
           replace H := Option.bind_eq_some_iff.mp H
           obtain ⟨t479, A1130, H⟩ := H
           try dsimp only at H
           have A113 := aM A1130
           clear A1130
           by_cases c114 : (t478 == t479) = true
           ·rw [if_pos c114] at H
            have c114b0 : (t478 == t479) = true := c114
            (try (have c114b1 : decide (t478 = t479) = true := by simpa using c114))
            (try (have c114b2 : (t478 == t479) = true := by simpa using c114))
            clear c114
            replace H := Option.bind_eq_some_iff.mp H
            obtain ⟨t480, A1150, H⟩ := H
            try dsimp only at H
            have A115 := aM A1150
            clear A1150
            replace H := Option.bind_eq_some_iff.mp H
            obtain ⟨t483, A1160, H⟩ := H
            try dsimp only at H
            have A116 := aM A1160
            clear A1160
            replace H := Option.bind_eq_some_iff.mp H
            obtain ⟨t486, A1170, H⟩ := H
            try dsimp only at H
            have A117 := aM A1170
            clear A1170
            by_cases c118 : t486 = true
            ·subst c118
             have H1 : ((data_Refs.f kj78 l0_0 l0_1 l0_2).bind fun t487 => ((mapmakerref14_Refs.f kj78 l0_0 l0_1 l0_2).bind fun t490 => ((mapmakerref14_SameRefs.f kj78 t487 t490).bind fun t493 => (if t493 = true then ((data_Tags.f l0_0 l0_1 l0_2 a1_0 a1_1).bind fun t494 => ((mapmakerref14_Tags.f kj78 l0_0 l0_1 l0_2 a1_0 a1_1).bind fun t497 => ((mapmakerref14_SameTags.f kj78 t494 t497).bind fun t500 => (if t500 = true then ((mapmakerlaw14_lives.f kj78).bind fun t501 => (some t501)) else (some false))))) else (some false))))) = some r := by rw [if_pos rfl] at H; exact H
             clear H
             have H := H1
             clear H1
             replace H := Option.bind_eq_some_iff.mp H
             obtain ⟨t487, A1190, H⟩ := H
             try dsimp only at H
             have A119 := aM A1190
             clear A1190
             replace H := Option.bind_eq_some_iff.mp H
             obtain ⟨t490, A1200, H⟩ := H
             try dsimp only at H
             have A120 := aM A1200
             clear A1200
             replace H := Option.bind_eq_some_iff.mp H
             obtain ⟨t493, A1210, H⟩ := H
             try dsimp only at H
             have A121 := aM A1210
             clear A1210
             by_cases c122 : t493 = true
             ·subst c122
              have H1 : ((data_Tags.f l0_0 l0_1 l0_2 a1_0 a1_1).bind fun t494 => ((mapmakerref14_Tags.f kj78 l0_0 l0_1 l0_2 a1_0 a1_1).bind fun t497 => ((mapmakerref14_SameTags.f kj78 t494 t497).bind fun t500 => (if t500 = true then ((mapmakerlaw14_lives.f kj78).bind fun t501 => (some t501)) else (some false))))) = some r := by rw [if_pos rfl] at H; exact H
              clear H
              have H := H1
              clear H1
              replace H := Option.bind_eq_some_iff.mp H
              obtain ⟨t494, A1230, H⟩ := H
              try dsimp only at H
              have A123 := aM A1230
              clear A1230
              replace H := Option.bind_eq_some_iff.mp H
              obtain ⟨t497, A1240, H⟩ := H
              try dsimp only at H
              have A124 := aM A1240
              clear A1240
              replace H := Option.bind_eq_some_iff.mp H
              obtain ⟨t500, A1250, H⟩ := H
              try dsimp only at H
              have A125 := aM A1250
              clear A1250
              by_cases c126 : t500 = true
              ·subst c126
               have H1 : ((mapmakerlaw14_lives.f kj78).bind fun t501 => (some t501)) = some r := by rw [if_pos rfl] at H; exact H
               clear H
               have H := H1
               clear H1
               replace H := Option.bind_eq_some_iff.mp H
               obtain ⟨t501, A1270, H⟩ := H
               try dsimp only at H
               have A127 := aM A1270
               clear A1270
               obtain rfl := Option.some.inj H
               try go_wp2
               replace BK419 := aM (kD BK419.out)
               replace BK420 := aM (kD BK420.out)
               replace HB := aM (bD HB.out)
               refine start_ (n := 36) (S := fun w' => w'.cell? ⟨gb419, 0, none⟩ = some (.slice A0_0 l0_0.length c0_0) ∧ w'.cell? ⟨gb419, 1, none⟩ = some (.slice A0_1 l0_1.length c0_1) ∧ w'.cell? ⟨gb419, 2, none⟩ = some (.slice A0_2 l0_2.length c0_2) ∧ w'.cell? ⟨gb420, 0, none⟩ = some (.int .i64 a1_0) ∧ w'.cell? ⟨gb420, 1, none⟩ = some (.int .i64 a1_1)) (ds := []) #[false, false, false, false, false, false, false, false, false, false, false, false, false, false, false, false, false, false, false, false, false, false, false, false, false, false, false, false, false, false, false, false, false, false, false, false] (by kernel_rfl) rfl rfl ⟨(kC BK419.out 0).trans rfl, (kC BK419.out 1).trans rfl, (kC BK419.out 2).trans rfl, (kC BK420.out 0).trans rfl, (kC BK420.out 1).trans rfl⟩ (fun hHeld => ?_); refine with_tabW mapmakerlaw14_DataFinds.tab15 mapmakerlaw14_DataFinds.bits15 (fun HT_ HW_ => ?_)
               generalize wc.drew = w128 at BK419 BK420 HB hHeld ⊢
               refine take_ (i := 0) (N := some 90) (v := ?_) (a' := ?_) (ba 36 1) rfl rfl (take_ofW HT_.out HW_.out (by kernel_rfl)) (fun _ _ _ h => h) (Or.inl ⟨by rfl, ?_⟩) hHeld ?_ ?_
               rotate_left
               ·rintro w' ⟨s0, s1, s2, s3, s4⟩
                go_simp
                with_reducible rfl
               rotate_left
               ·simp only [Act.put, sA, sB, sC, i64_w, i32_w]
                rfl
               refine take_ (i := 1) (N := some 91) (v := ?_) (a' := ?_) (ba 36 3) rfl rfl (take_ofW HT_.out HW_.out (by kernel_rfl)) (fun _ _ _ h => h) (Or.inl ⟨by rfl, ?_⟩) hHeld ?_ ?_
               rotate_left
               ·rintro w' ⟨s0, s1, s2, s3, s4⟩
                go_simp
                with_reducible rfl
               rotate_left
               ·simp only [Act.put, sA, sB, sC, i64_w, i32_w]
                rfl
               refine take_ (i := 3) (N := some 93) (v := ?_) (a' := ?_) (ba 36 11) rfl rfl (take_ofW HT_.out HW_.out (by kernel_rfl)) (fun _ _ _ h => h) (Or.inl ⟨by rfl, ?_⟩) hHeld ?_ ?_
               rotate_left
               ·rintro w' ⟨s0, s1, s2, s3, s4⟩
                go_simp
                with_reducible rfl
               rotate_left
               ·simp only [Act.put, sA, sB, sC, i64_w, i32_w]
                rfl
               refine take_ (i := 4) (N := some 94) (v := ?_) (a' := ?_) (ba 36 27) rfl rfl (take_ofW HT_.out HW_.out (by kernel_rfl)) (fun _ _ _ h => h) (Or.inl ⟨by rfl, ?_⟩) hHeld ?_ ?_
               rotate_left
               ·rintro w' ⟨s0, s1, s2, s3, s4⟩
                go_simp
                with_reducible rfl
               rotate_left
               ·simp only [Act.put, sA, sB, sC, i64_w, i32_w]
                rfl
               refine one_ (i := 2) (N := some 92) (ba 36 31) rfl rfl (one_of HT_.out (by kernel_rfl)) (by decide) (fun K hK => ?_)
               refine goes_ Try.func21 (by kernel_rfl) rfl #[.agg #[.slice A0_0 l0_0.length c0_0, .slice A0_1 l0_1.length c0_1, .slice A0_2 l0_2.length c0_2], .agg #[.int .i64 a1_0, .int .i64 a1_1]] (by rfl) rfl rfl (by (try simp only [List.map_toArray, List.map_cons, List.map_nil]); first | done | rfl | (simp only [List.length_drop, List.length_take]; rfl)) ?_
               with_reducible refine (data_Has.calls kj78 _ _ l0_0 _ _ l0_1 _ _ l0_2 a1_0 a1_1 t478 _ ?side1 ?side2 ?side3 ?side4 ?side5 ?side6 A112.out).mono ?_
               (case side1 => exact cl HR0_0)
               (case side2 => exact HC0_0.out)
               (case side3 => exact cl HR0_1)
               (case side4 => exact HC0_1.out)
               (case side5 => exact cl HR0_2)
               (case side6 => exact HC0_2.out)
               rintro e w129 ⟨rfl, hb⟩
               refine ⟨_, rfl, ?_⟩
               replace BK419 := aM (kB (kl BK419) hb)
               replace BK420 := aM (kB (kl BK420) hb)
               replace HB := aM (bS (bl) hb)
               (try clear hb)
               (try clear hb2)
               (try clear hk)
               (try clear hi)
               refine hK.out _ _ ⟨(kC BK419.out 0).trans rfl, (kC BK419.out 1).trans rfl, (kC BK419.out 2).trans rfl, (kC BK420.out 0).trans rfl, (kC BK420.out 1).trans rfl⟩ (fun hHeld => ?_)
               clear hK K
               refine norm_ (a' := ?_) ?_ ?_
               rotate_left
               ·show Act.put _ (some 92) _ = _
                simp only [Act.put, sA, sB, sC, i64_w, i32_w]
                rfl
               refine one_ (i := 5) (N := some 95) (ba 36 63) rfl rfl (one_of HT_.out (by kernel_rfl)) (by decide) (fun K hK => ?_)
               refine goes_ Try.func22 (by kernel_rfl) rfl #[.agg #[.slice A0_0 l0_0.length c0_0, .slice A0_1 l0_1.length c0_1, .slice A0_2 l0_2.length c0_2], .agg #[.int .i64 a1_0, .int .i64 a1_1]] (by rfl) rfl rfl (by (try simp only [List.map_toArray, List.map_cons, List.map_nil]); first | done | rfl | (simp only [List.length_drop, List.length_take]; rfl)) ?_
               with_reducible refine (mapmakerref14_Has.calls kj78 _ _ l0_0 _ _ l0_1 _ _ l0_2 a1_0 a1_1 t479 _ ?side1 ?side2 ?side3 ?side4 ?side5 ?side6 A113.out).mono ?_
               (case side1 => exact cl HR0_0)
               (case side2 => exact HC0_0.out)
               (case side3 => exact cl HR0_1)
               (case side4 => exact HC0_1.out)
               (case side5 => exact cl HR0_2)
               (case side6 => exact HC0_2.out)
               rintro e w130 ⟨rfl, hb⟩
               refine ⟨_, rfl, ?_⟩
               replace BK419 := aM (kB (kl BK419) hb)
               replace BK420 := aM (kB (kl BK420) hb)
               replace HB := aM (bS (bl) hb)
               (try clear hb)
               (try clear hb2)
               (try clear hk)
               (try clear hi)
               refine hK.out _ _ ⟨(kC BK419.out 0).trans rfl, (kC BK419.out 1).trans rfl, (kC BK419.out 2).trans rfl, (kC BK420.out 0).trans rfl, (kC BK420.out 1).trans rfl⟩ (fun hHeld => ?_)
               clear hK K
               refine norm_ (a' := ?_) ?_ ?_
               rotate_left
               ·show Act.put _ (some 95) _ = _
                simp only [Act.put, sA, sB, sC, i64_w, i32_w]
                rfl
               refine pure_ (i := 6) (N := some 96) (v := ?_) (a' := ?_) (ba 36 127) rfl rfl (any_of HT_.out (by kernel_rfl)) (fun _ _ _ h => h) (Or.inl ⟨by rfl, ?_⟩) ?_ ?_
               rotate_left
               ·intro w'
                go_simp
                with_reducible rfl
               rotate_left
               ·simp only [Act.put, sA, sB, sC, i64_w, i32_w]
                rfl
               refine pure_ (i := 7) (N := some 97) (v := ?_) (a' := ?_) (ba 36 255) rfl rfl (any_of HT_.out (by kernel_rfl)) (fun _ _ _ h => h) (Or.inl ⟨by rfl, ?_⟩) ?_ ?_
               rotate_left
               ·intro w'
                go_simp
                with_reducible rfl
               rotate_left
               ·simp only [Act.put, sA, sB, sC, i64_w, i32_w]
                rfl
               refine take_ (i := 8) (N := some 98) (v := ?_) (a' := ?_) (ba 36 511) rfl rfl (take_ofW HT_.out HW_.out (by kernel_rfl)) (fun _ _ _ h => h) (Or.inl ⟨by rfl, ?_⟩) hHeld ?_ ?_
               rotate_left
               ·rintro w' ⟨s0, s1, s2, s3, s4⟩
                go_simp
                with_reducible rfl
               rotate_left
               ·simp only [Act.put, sA, sB, sC, i64_w, i32_w]
                rfl
               refine take_ (i := 9) (N := some 99) (v := ?_) (a' := ?_) (ba 36 1023) rfl rfl (take_ofW HT_.out HW_.out (by kernel_rfl)) (fun _ _ _ h => h) (Or.inl ⟨by rfl, ?_⟩) hHeld ?_ ?_
               rotate_left
               ·rintro w' ⟨s0, s1, s2, s3, s4⟩
                go_simp
                with_reducible rfl
               rotate_left
               ·simp only [Act.put, sA, sB, sC, i64_w, i32_w]
                rfl
               refine take_ (i := 11) (N := some 101) (v := ?_) (a' := ?_) (ba 36 3071) rfl rfl (take_ofW HT_.out HW_.out (by kernel_rfl)) (fun _ _ _ h => h) (Or.inl ⟨by rfl, ?_⟩) hHeld ?_ ?_
               rotate_left
               ·rintro w' ⟨s0, s1, s2, s3, s4⟩
                go_simp
                with_reducible rfl
               rotate_left
               ·simp only [Act.put, sA, sB, sC, i64_w, i32_w]
                rfl
               refine take_ (i := 12) (N := some 102) (v := ?_) (a' := ?_) (ba 36 7167) rfl rfl (take_ofW HT_.out HW_.out (by kernel_rfl)) (fun _ _ _ h => h) (Or.inl ⟨by rfl, ?_⟩) hHeld ?_ ?_
               rotate_left
               ·rintro w' ⟨s0, s1, s2, s3, s4⟩
                go_simp
                with_reducible rfl
               rotate_left
               ·simp only [Act.put, sA, sB, sC, i64_w, i32_w]
                rfl
               refine one_ (i := 10) (N := some 100) (ba 36 8191) rfl rfl (one_of HT_.out (by kernel_rfl)) (by decide) (fun K hK => ?_)
               refine goes_ Try.func24 (by kernel_rfl) rfl #[.agg #[.slice A0_0 l0_0.length c0_0, .slice A0_1 l0_1.length c0_1, .slice A0_2 l0_2.length c0_2], .agg #[.int .i64 a1_0, .int .i64 a1_1]] (by rfl) rfl rfl (by (try simp only [List.map_toArray, List.map_cons, List.map_nil]); first | done | rfl | (simp only [List.length_drop, List.length_take]; rfl)) ?_
               with_reducible refine (data_Users.calls kj78 _ _ l0_0 _ _ l0_1 _ _ l0_2 a1_0 a1_1 t480 _ ?side1 ?side2 ?side3 ?side4 ?side5 ?side6 A115.out).mono ?_
               (case side1 => exact cl HR0_0)
               (case side2 => exact HC0_0.out)
               (case side3 => exact cl HR0_1)
               (case side4 => exact HC0_1.out)
               (case side5 => exact cl HR0_2)
               (case side6 => exact HC0_2.out)
               rintro e w131 ⟨v481, rfl, ho0, hb⟩
               refine ⟨_, rfl, ?_⟩
               have HO482 := aM (Kd.R_lower (Kd.R_newB ho0 (kl BK420)) (below_size (bl)))
               replace BK419 := aM (kB (kl BK419) hb)
               replace BK420 := aM (kB (kl BK420) hb)
               replace HB := aM (bS (bl) hb)
               (try clear hb)
               (try clear hb2)
               (try clear hk)
               (try clear hi)
               (try clear ho0)
               refine hK.out _ _ ⟨(kC BK419.out 0).trans rfl, (kC BK419.out 1).trans rfl, (kC BK419.out 2).trans rfl, (kC BK420.out 0).trans rfl, (kC BK420.out 1).trans rfl⟩ (fun hHeld => ?_)
               clear hK K
               refine norm_ (a' := ?_) ?_ ?_
               rotate_left
               ·show Act.put _ (some 100) _ = _
                simp only [Act.put, sA, sB, sC, i64_w, i32_w]
                rfl
               refine one_ (i := 13) (N := some 103) (ba 36 16383) rfl rfl (one_of HT_.out (by kernel_rfl)) (by decide) (fun K hK => ?_)
               refine goes_ Try.func25 (by kernel_rfl) rfl #[.agg #[.slice A0_0 l0_0.length c0_0, .slice A0_1 l0_1.length c0_1, .slice A0_2 l0_2.length c0_2], .agg #[.int .i64 a1_0, .int .i64 a1_1]] (by rfl) rfl rfl (by (try simp only [List.map_toArray, List.map_cons, List.map_nil]); first | done | rfl | (simp only [List.length_drop, List.length_take]; rfl)) ?_
               with_reducible refine (mapmakerref14_Users.calls kj78 _ _ l0_0 _ _ l0_1 _ _ l0_2 a1_0 a1_1 t483 _ ?side1 ?side2 ?side3 ?side4 ?side5 ?side6 A116.out).mono ?_
               (case side1 => exact cl HR0_0)
               (case side2 => exact HC0_0.out)
               (case side3 => exact cl HR0_1)
               (case side4 => exact HC0_1.out)
               (case side5 => exact cl HR0_2)
               (case side6 => exact HC0_2.out)
               rintro e w132 ⟨v484, rfl, ho0, hb⟩
               refine ⟨_, rfl, ?_⟩
               have HO485 := aM (Kd.R_lower (Kd.R_newB (Kd.R_new' ho0 (Kd.R_lt (rl HO482))) (kl BK420)) (below_size (bl)))
               replace HO482 := aM (rE (rl HO482) (Kd.R_base ho0) hb)
               replace BK419 := aM (kB (kl BK419) hb)
               replace BK420 := aM (kB (kl BK420) hb)
               replace HB := aM (bS (bl) hb)
               (try clear hb)
               (try clear hb2)
               (try clear hk)
               (try clear hi)
               (try clear ho0)
               obtain ⟨Ao133, co133, eo133⟩ := Kd.R_slice HO482.out
               (first | subst eo133 | (injection eo133 with f1_ f2_ f3_; have f4_ := f1_.symm; have f5_ := f3_.symm; clear f1_ f2_ f3_; subst f4_; subst f5_))
               obtain ⟨Ao134, co134, eo134⟩ := Kd.R_slice HO485.out
               (first | subst eo134 | (injection eo134 with f1_ f2_ f3_; have f4_ := f1_.symm; have f5_ := f3_.symm; clear f1_ f2_ f3_; subst f4_; subst f5_))
               refine hK.out _ _ ⟨(kC BK419.out 0).trans rfl, (kC BK419.out 1).trans rfl, (kC BK419.out 2).trans rfl, (kC BK420.out 0).trans rfl, (kC BK420.out 1).trans rfl⟩ (fun hHeld => ?_)
               clear hK K
               refine norm_ (a' := ?_) ?_ ?_
               rotate_left
               ·show Act.put _ (some 103) _ = _
                simp only [Act.put, sA, sB, sC, i64_w, i32_w]
                rfl
               refine one_ (i := 14) (N := some 104) (ba 36 32767) rfl rfl (one_of HT_.out (by kernel_rfl)) (by decide) (fun K hK => ?_)
               refine goes_ Try.func23 (by kernel_rfl) rfl #[.slice Ao133 t480.length co133, .slice Ao134 t483.length co134] (by rfl) rfl rfl (by (try simp only [List.map_toArray, List.map_cons, List.map_nil]); first | done | rfl | (simp only [List.length_drop, List.length_take]; rfl)) ?_
               with_reducible refine (mapmakerref14_SameRefs.calls kj78 _ _ t480 _ _ t483 true _ ?side1 ?side2 ?side3 ?side4 A117.out).mono ?_
               (case side1 => repeat (first | exact (rR HO482.out).2.2 | (with_reducible refine cA ?_ _) | (with_reducible refine cN ?_ _) | (with_reducible refine cD ?_)))
               (case side2 => exact (rR HO482.out).2.1)
               (case side3 => repeat (first | exact (rR HO485.out).2.2 | (with_reducible refine cA ?_ _) | (with_reducible refine cN ?_ _) | (with_reducible refine cD ?_)))
               (case side4 => exact (rR HO485.out).2.1)
               rintro e w' ⟨rfl, ⟨nd, rfl⟩⟩
               refine ⟨_, rfl, ?_⟩
               refine hK.out _ _ ⟨(kC BK419.out 0).trans rfl, (kC BK419.out 1).trans rfl, (kC BK419.out 2).trans rfl, (kC BK420.out 0).trans rfl, (kC BK420.out 1).trans rfl⟩ (fun hHeld => ?_)
               clear hK K
               refine norm_ (a' := ?_) ?_ ?_
               rotate_left
               ·show Act.put _ (some 104) _ = _
                simp only [Act.put, sA, sB, sC, i64_w, i32_w]
                rfl
               refine pure_ (i := 15) (N := some 105) (v := ?_) (a' := ?_) (ba 36 65535) rfl rfl (any_of HT_.out (by kernel_rfl)) (fun _ _ _ h => h) (Or.inl ⟨by rfl, ?_⟩) ?_ ?_
               rotate_left
               ·intro w'
                go_simp
                with_reducible rfl
               rotate_left
               ·simp only [Act.put, sA, sB, sC, i64_w, i32_w]
                rfl
               refine pure_ (i := 16) (N := some 106) (v := ?_) (a' := ?_) (ba 36 131071) rfl rfl (any_of HT_.out (by kernel_rfl)) (fun _ _ _ h => h) (Or.inl ⟨by rfl, ?_⟩) ?_ ?_
               rotate_left
               ·intro w'
                go_simp
                with_reducible rfl
               rotate_left
               ·simp only [Act.put, sA, sB, sC, i64_w, i32_w]
                rfl
               refine take_ (i := 17) (N := some 107) (v := ?_) (a' := ?_) (ba 36 262143) rfl rfl (take_ofW HT_.out HW_.out (by kernel_rfl)) (fun _ _ _ h => h) (Or.inl ⟨by rfl, ?_⟩) hHeld ?_ ?_
               rotate_left
               ·rintro w' ⟨s0, s1, s2, s3, s4⟩
                go_simp
                with_reducible rfl
               rotate_left
               ·simp only [Act.put, sA, sB, sC, i64_w, i32_w]
                rfl
               refine take_ (i := 19) (N := some 109) (v := ?_) (a' := ?_) (ba 36 786431) rfl rfl (take_ofW HT_.out HW_.out (by kernel_rfl)) (fun _ _ _ h => h) (Or.inl ⟨by rfl, ?_⟩) hHeld ?_ ?_
               rotate_left
               ·rintro w' ⟨s0, s1, s2, s3, s4⟩
                go_simp
                with_reducible rfl
               rotate_left
               ·simp only [Act.put, sA, sB, sC, i64_w, i32_w]
                rfl
               refine one_ (i := 18) (N := some 108) (ba 36 1048575) rfl rfl (one_of HT_.out (by kernel_rfl)) (by decide) (fun K hK => ?_)
               refine goes_ Try.func26 (by kernel_rfl) rfl #[.agg #[.slice A0_0 l0_0.length c0_0, .slice A0_1 l0_1.length c0_1, .slice A0_2 l0_2.length c0_2]] (by rfl) rfl rfl (by (try simp only [List.map_toArray, List.map_cons, List.map_nil]); first | done | rfl | (simp only [List.length_drop, List.length_take]; rfl)) ?_
               with_reducible refine (data_Refs.calls kj78 _ _ l0_0 _ _ l0_1 _ _ l0_2 t487 _ ?side1 ?side2 ?side3 ?side4 ?side5 ?side6 A119.out).mono ?_
               (case side1 => repeat (first | exact (Kd.C_below HR0_0.out (bl)) | (with_reducible refine cA ?_ _) | (with_reducible refine cN ?_ _) | (with_reducible refine cD ?_)))
               (case side2 => exact HC0_0.out)
               (case side3 => repeat (first | exact (Kd.C_below HR0_1.out (bl)) | (with_reducible refine cA ?_ _) | (with_reducible refine cN ?_ _) | (with_reducible refine cD ?_)))
               (case side4 => exact HC0_1.out)
               (case side5 => repeat (first | exact (Kd.C_below HR0_2.out (bl)) | (with_reducible refine cA ?_ _) | (with_reducible refine cN ?_ _) | (with_reducible refine cD ?_)))
               (case side6 => exact HC0_2.out)
               rintro e w135 ⟨v488, rfl, ho0, hb⟩
               refine ⟨_, rfl, ?_⟩
               have HO489 := aM (Kd.R_lower (Kd.R_newB (Kd.R_new' (Kd.R_new' ho0 (Kd.R_lt (rl HO482))) (Kd.R_lt (rl HO485))) (kl BK420)) (below_size (bl)))
               replace HO482 := aM (rE (rl HO482) (Kd.R_base ho0) hb)
               replace HO485 := aM (rE (rl HO485) (Kd.R_base ho0) hb)
               replace BK419 := aM (kB (kl BK419) hb)
               replace BK420 := aM (kB (kl BK420) hb)
               replace HB := aM (bS (bl) hb)
               (try clear hb)
               (try clear hb2)
               (try clear hk)
               (try clear hi)
               (try clear ho0)
               refine hK.out _ _ ⟨(kC BK419.out 0).trans rfl, (kC BK419.out 1).trans rfl, (kC BK419.out 2).trans rfl, (kC BK420.out 0).trans rfl, (kC BK420.out 1).trans rfl⟩ (fun hHeld => ?_)
               clear hK K
               refine norm_ (a' := ?_) ?_ ?_
               rotate_left
               ·show Act.put _ (some 108) _ = _
                simp only [Act.put, sA, sB, sC, i64_w, i32_w]
                rfl
               refine one_ (i := 20) (N := some 110) (ba 36 2097151) rfl rfl (one_of HT_.out (by kernel_rfl)) (by decide) (fun K hK => ?_)
               refine goes_ Try.func27 (by kernel_rfl) rfl #[.agg #[.slice A0_0 l0_0.length c0_0, .slice A0_1 l0_1.length c0_1, .slice A0_2 l0_2.length c0_2]] (by rfl) rfl rfl (by (try simp only [List.map_toArray, List.map_cons, List.map_nil]); first | done | rfl | (simp only [List.length_drop, List.length_take]; rfl)) ?_
               with_reducible refine (mapmakerref14_Refs.calls kj78 _ _ l0_0 _ _ l0_1 _ _ l0_2 t490 _ ?side1 ?side2 ?side3 ?side4 ?side5 ?side6 A120.out).mono ?_
               (case side1 => exact cl HR0_0)
               (case side2 => exact HC0_0.out)
               (case side3 => exact cl HR0_1)
               (case side4 => exact HC0_1.out)
               (case side5 => exact cl HR0_2)
               (case side6 => exact HC0_2.out)
               rintro e w136 ⟨v491, rfl, ho0, hb⟩
               refine ⟨_, rfl, ?_⟩
               have HO492 := aM (Kd.R_lower (Kd.R_newB (Kd.R_new' (Kd.R_new' (Kd.R_new' ho0 (Kd.R_lt (rl HO482))) (Kd.R_lt (rl HO485))) (Kd.R_lt (rl HO489))) (kl BK420)) (below_size (bl)))
               replace HO482 := aM (rE (rl HO482) (Kd.R_base ho0) hb)
               replace HO485 := aM (rE (rl HO485) (Kd.R_base ho0) hb)
               replace HO489 := aM (rE (rl HO489) (Kd.R_base ho0) hb)
               replace BK419 := aM (kB (kl BK419) hb)
               replace BK420 := aM (kB (kl BK420) hb)
               replace HB := aM (bS (bl) hb)
               (try clear hb)
               (try clear hb2)
               (try clear hk)
               (try clear hi)
               (try clear ho0)
               obtain ⟨Ao137, co137, eo137⟩ := Kd.R_slice HO489.out
               (first | subst eo137 | (injection eo137 with f1_ f2_ f3_; have f4_ := f1_.symm; have f5_ := f3_.symm; clear f1_ f2_ f3_; subst f4_; subst f5_))
               obtain ⟨Ao138, co138, eo138⟩ := Kd.R_slice HO492.out
               (first | subst eo138 | (injection eo138 with f1_ f2_ f3_; have f4_ := f1_.symm; have f5_ := f3_.symm; clear f1_ f2_ f3_; subst f4_; subst f5_))
               refine hK.out _ _ ⟨(kC BK419.out 0).trans rfl, (kC BK419.out 1).trans rfl, (kC BK419.out 2).trans rfl, (kC BK420.out 0).trans rfl, (kC BK420.out 1).trans rfl⟩ (fun hHeld => ?_)
               clear hK K
               refine norm_ (a' := ?_) ?_ ?_
               rotate_left
               ·show Act.put _ (some 110) _ = _
                simp only [Act.put, sA, sB, sC, i64_w, i32_w]
                rfl
               refine one_ (i := 21) (N := some 111) (ba 36 4194303) rfl rfl (one_of HT_.out (by kernel_rfl)) (by decide) (fun K hK => ?_)
               refine goes_ Try.func23 (by kernel_rfl) rfl #[.slice Ao137 t487.length co137, .slice Ao138 t490.length co138] (by rfl) rfl rfl (by (try simp only [List.map_toArray, List.map_cons, List.map_nil]); first | done | rfl | (simp only [List.length_drop, List.length_take]; rfl)) ?_
               with_reducible refine (mapmakerref14_SameRefs.calls kj78 _ _ t487 _ _ t490 true _ ?side1 ?side2 ?side3 ?side4 A121.out).mono ?_
               (case side1 => repeat (first | exact (rR HO489.out).2.2 | (with_reducible refine cA ?_ _) | (with_reducible refine cN ?_ _) | (with_reducible refine cD ?_)))
               (case side2 => exact (rR HO489.out).2.1)
               (case side3 => repeat (first | exact (rR HO492.out).2.2 | (with_reducible refine cA ?_ _) | (with_reducible refine cN ?_ _) | (with_reducible refine cD ?_)))
               (case side4 => exact (rR HO492.out).2.1)
               rintro e w' ⟨rfl, ⟨nd, rfl⟩⟩
               refine ⟨_, rfl, ?_⟩
               refine hK.out _ _ ⟨(kC BK419.out 0).trans rfl, (kC BK419.out 1).trans rfl, (kC BK419.out 2).trans rfl, (kC BK420.out 0).trans rfl, (kC BK420.out 1).trans rfl⟩ (fun hHeld => ?_)
               clear hK K
               refine norm_ (a' := ?_) ?_ ?_
               rotate_left
               ·show Act.put _ (some 111) _ = _
                simp only [Act.put, sA, sB, sC, i64_w, i32_w]
                rfl
               refine pure_ (i := 22) (N := some 112) (v := ?_) (a' := ?_) (ba 36 8388607) rfl rfl (any_of HT_.out (by kernel_rfl)) (fun _ _ _ h => h) (Or.inl ⟨by rfl, ?_⟩) ?_ ?_
               rotate_left
               ·intro w'
                go_simp
                with_reducible rfl
               rotate_left
               ·simp only [Act.put, sA, sB, sC, i64_w, i32_w]
                rfl
               refine pure_ (i := 23) (N := some 113) (v := ?_) (a' := ?_) (ba 36 16777215) rfl rfl (any_of HT_.out (by kernel_rfl)) (fun _ _ _ h => h) (Or.inl ⟨by rfl, ?_⟩) ?_ ?_
               rotate_left
               ·intro w'
                go_simp
                with_reducible rfl
               rotate_left
               ·simp only [Act.put, sA, sB, sC, i64_w, i32_w]
                rfl
               refine take_ (i := 24) (N := some 114) (v := ?_) (a' := ?_) (ba 36 33554431) rfl rfl (take_ofW HT_.out HW_.out (by kernel_rfl)) (fun _ _ _ h => h) (Or.inl ⟨by rfl, ?_⟩) hHeld ?_ ?_
               rotate_left
               ·rintro w' ⟨s0, s1, s2, s3, s4⟩
                go_simp
                with_reducible rfl
               rotate_left
               ·simp only [Act.put, sA, sB, sC, i64_w, i32_w]
                rfl
               refine take_ (i := 25) (N := some 115) (v := ?_) (a' := ?_) (ba 36 67108863) rfl rfl (take_ofW HT_.out HW_.out (by kernel_rfl)) (fun _ _ _ h => h) (Or.inl ⟨by rfl, ?_⟩) hHeld ?_ ?_
               rotate_left
               ·rintro w' ⟨s0, s1, s2, s3, s4⟩
                go_simp
                with_reducible rfl
               rotate_left
               ·simp only [Act.put, sA, sB, sC, i64_w, i32_w]
                rfl
               refine take_ (i := 27) (N := some 117) (v := ?_) (a' := ?_) (ba 36 201326591) rfl rfl (take_ofW HT_.out HW_.out (by kernel_rfl)) (fun _ _ _ h => h) (Or.inl ⟨by rfl, ?_⟩) hHeld ?_ ?_
               rotate_left
               ·rintro w' ⟨s0, s1, s2, s3, s4⟩
                go_simp
                with_reducible rfl
               rotate_left
               ·simp only [Act.put, sA, sB, sC, i64_w, i32_w]
                rfl
               refine take_ (i := 28) (N := some 118) (v := ?_) (a' := ?_) (ba 36 469762047) rfl rfl (take_ofW HT_.out HW_.out (by kernel_rfl)) (fun _ _ _ h => h) (Or.inl ⟨by rfl, ?_⟩) hHeld ?_ ?_
               rotate_left
               ·rintro w' ⟨s0, s1, s2, s3, s4⟩
                go_simp
                with_reducible rfl
               rotate_left
               ·simp only [Act.put, sA, sB, sC, i64_w, i32_w]
                rfl
               refine one_ (i := 26) (N := some 116) (ba 36 536870911) rfl rfl (one_of HT_.out (by kernel_rfl)) (by decide) (fun K hK => ?_)
               refine goes_ Try.func29 (by kernel_rfl) rfl #[.agg #[.slice A0_0 l0_0.length c0_0, .slice A0_1 l0_1.length c0_1, .slice A0_2 l0_2.length c0_2], .agg #[.int .i64 a1_0, .int .i64 a1_1]] (by rfl) rfl rfl (by (try simp only [List.map_toArray, List.map_cons, List.map_nil]); first | done | rfl | (simp only [List.length_drop, List.length_take]; rfl)) ?_
               with_reducible refine (data_Tags.calls (fun k_ => k_ < w.heap.size) _ _ l0_0 (fun k_ => k_ < w.heap.size) _ _ l0_1 (fun k_ => k_ < w.heap.size) _ _ l0_2 a1_0 a1_1 t494 _ ?side1 ?side2 ?side3 A123.out).mono ?_
               (case side1 => exact Kd.V_mk HC0_0.out (Kd.F_below (Kd.C_F k39_heap HR0_0.out) (bl)))
               (case side2 => exact Kd.V_mk HC0_1.out (Kd.F_below (Kd.C_F k45_heap HR0_1.out) (bl)))
               (case side3 => exact Kd.V_mk HC0_2.out (Kd.F_below (Kd.C_F k51_heap HR0_2.out) (bl)))
               rintro e w139 ⟨v495, rfl, ho0, hb⟩
               refine ⟨_, rfl, ?_⟩
               have HO496 := aM (Kd.V_lower (Kd.V_mono (ok' := fun k_ => some k_ ≠ (.slice Ao133 t480.length co133 : Value).ownBlock ∧ some k_ ≠ (.slice Ao134 t483.length co134 : Value).ownBlock ∧ some k_ ≠ (.slice Ao137 t487.length co137 : Value).ownBlock ∧ some k_ ≠ (.slice Ao138 t490.length co138 : Value).ownBlock ∧ k_ ≠ gb419 ∧ k_ ≠ gb420) ho0 (fun k_ hk_ => ⟨Or.elim hk_ (fun hs_ => Or.elim hs_ (fun hs_ => fun e_ => Nat.not_le.2 hs_ (Kd.R_base HO482.out k_ e_.symm)) (fun hs_ => Or.elim hs_ (fun hs_ => fun e_ => Nat.not_le.2 hs_ (Kd.R_base HO482.out k_ e_.symm)) (fun hs_ => fun e_ => Nat.not_le.2 hs_ (Kd.R_base HO482.out k_ e_.symm)))) (fun hn_ => (Kd.fresh' (Kd.R_lt (rl HO482)) k_ hn_)), Or.elim hk_ (fun hs_ => Or.elim hs_ (fun hs_ => fun e_ => Nat.not_le.2 hs_ (Kd.R_base HO485.out k_ e_.symm)) (fun hs_ => Or.elim hs_ (fun hs_ => fun e_ => Nat.not_le.2 hs_ (Kd.R_base HO485.out k_ e_.symm)) (fun hs_ => fun e_ => Nat.not_le.2 hs_ (Kd.R_base HO485.out k_ e_.symm)))) (fun hn_ => (Kd.fresh' (Kd.R_lt (rl HO485)) k_ hn_)), Or.elim hk_ (fun hs_ => Or.elim hs_ (fun hs_ => fun e_ => Nat.not_le.2 hs_ (Kd.R_base HO489.out k_ e_.symm)) (fun hs_ => Or.elim hs_ (fun hs_ => fun e_ => Nat.not_le.2 hs_ (Kd.R_base HO489.out k_ e_.symm)) (fun hs_ => fun e_ => Nat.not_le.2 hs_ (Kd.R_base HO489.out k_ e_.symm)))) (fun hn_ => (Kd.fresh' (Kd.R_lt (rl HO489)) k_ hn_)), Or.elim hk_ (fun hs_ => Or.elim hs_ (fun hs_ => fun e_ => Nat.not_le.2 hs_ (Kd.R_base HO492.out k_ e_.symm)) (fun hs_ => Or.elim hs_ (fun hs_ => fun e_ => Nat.not_le.2 hs_ (Kd.R_base HO492.out k_ e_.symm)) (fun hs_ => fun e_ => Nat.not_le.2 hs_ (Kd.R_base HO492.out k_ e_.symm)))) (fun hn_ => (Kd.fresh' (Kd.R_lt (rl HO492)) k_ hn_)), Or.elim hk_ (fun hs_ => Or.elim hs_ (fun hs_ => fun e_ => Nat.not_le.2 hs_ (by rw [e_]; exact GW419.out)) (fun hs_ => Or.elim hs_ (fun hs_ => fun e_ => Nat.not_le.2 hs_ (by rw [e_]; exact GW419.out)) (fun hs_ => fun e_ => Nat.not_le.2 hs_ (by rw [e_]; exact GW419.out)))) (fun hn_ => (Kd.freshB (kl BK419) k_ hn_)), Or.elim hk_ (fun hs_ => Or.elim hs_ (fun hs_ => fun e_ => Nat.not_le.2 hs_ (by rw [e_]; exact GW420.out)) (fun hs_ => Or.elim hs_ (fun hs_ => fun e_ => Nat.not_le.2 hs_ (by rw [e_]; exact GW420.out)) (fun hs_ => fun e_ => Nat.not_le.2 hs_ (by rw [e_]; exact GW420.out)))) (fun hn_ => (Kd.freshB (kl BK420) k_ hn_))⟩)) (below_size (bl)))
               replace HO482 := aM (rB (rl HO482) hb)
               replace HO485 := aM (rB (rl HO485) hb)
               replace HO489 := aM (rB (rl HO489) hb)
               replace HO492 := aM (rB (rl HO492) hb)
               replace BK419 := aM (kB (kl BK419) hb)
               replace BK420 := aM (kB (kl BK420) hb)
               replace HB := aM (bS (bl) hb)
               (try clear hb)
               (try clear hb2)
               (try clear hk)
               (try clear hi)
               (try clear ho0)
               refine hK.out _ _ ⟨(kC BK419.out 0).trans rfl, (kC BK419.out 1).trans rfl, (kC BK419.out 2).trans rfl, (kC BK420.out 0).trans rfl, (kC BK420.out 1).trans rfl⟩ (fun hHeld => ?_)
               clear hK K
               refine norm_ (a' := ?_) ?_ ?_
               rotate_left
               ·show Act.put _ (some 116) _ = _
                simp only [Act.put, sA, sB, sC, i64_w, i32_w]
                rfl
               refine one_ (i := 29) (N := some 119) (ba 36 1073741823) rfl rfl (one_of HT_.out (by kernel_rfl)) (by decide) (fun K hK => ?_)
               refine goes_ Try.func30 (by kernel_rfl) rfl #[.agg #[.slice A0_0 l0_0.length c0_0, .slice A0_1 l0_1.length c0_1, .slice A0_2 l0_2.length c0_2], .agg #[.int .i64 a1_0, .int .i64 a1_1]] (by rfl) rfl rfl (by (try simp only [List.map_toArray, List.map_cons, List.map_nil]); first | done | rfl | (simp only [List.length_drop, List.length_take]; rfl)) ?_
               with_reducible refine (mapmakerref14_Tags.calls kj78 (fun k_ => k_ < w.heap.size) _ _ l0_0 (fun k_ => k_ < w.heap.size) _ _ l0_1 (fun k_ => k_ < w.heap.size) _ _ l0_2 a1_0 a1_1 t497 _ ?side1 ?side2 ?side3 A124.out).mono ?_
               (case side1 => exact Kd.V_mk HC0_0.out (Kd.F_below (Kd.C_F k39_heap HR0_0.out) (bl)))
               (case side2 => exact Kd.V_mk HC0_1.out (Kd.F_below (Kd.C_F k45_heap HR0_1.out) (bl)))
               (case side3 => exact Kd.V_mk HC0_2.out (Kd.F_below (Kd.C_F k51_heap HR0_2.out) (bl)))
               rintro e w140 ⟨v498, rfl, ho0, hb⟩
               refine ⟨_, rfl, ?_⟩
               have HO499 := aM (Kd.V_lower (Kd.V_mono (ok' := fun k_ => some k_ ≠ (.slice Ao133 t480.length co133 : Value).ownBlock ∧ some k_ ≠ (.slice Ao134 t483.length co134 : Value).ownBlock ∧ some k_ ≠ (.slice Ao137 t487.length co137 : Value).ownBlock ∧ some k_ ≠ (.slice Ao138 t490.length co138 : Value).ownBlock ∧ k_ ≠ gb419 ∧ k_ ≠ gb420) ho0 (fun k_ hk_ => ⟨Or.elim hk_ (fun hs_ => Or.elim hs_ (fun hs_ => fun e_ => Nat.not_le.2 hs_ (Kd.R_base HO482.out k_ e_.symm)) (fun hs_ => Or.elim hs_ (fun hs_ => fun e_ => Nat.not_le.2 hs_ (Kd.R_base HO482.out k_ e_.symm)) (fun hs_ => fun e_ => Nat.not_le.2 hs_ (Kd.R_base HO482.out k_ e_.symm)))) (fun hn_ => (Kd.fresh' (Kd.R_lt (rl HO482)) k_ hn_)), Or.elim hk_ (fun hs_ => Or.elim hs_ (fun hs_ => fun e_ => Nat.not_le.2 hs_ (Kd.R_base HO485.out k_ e_.symm)) (fun hs_ => Or.elim hs_ (fun hs_ => fun e_ => Nat.not_le.2 hs_ (Kd.R_base HO485.out k_ e_.symm)) (fun hs_ => fun e_ => Nat.not_le.2 hs_ (Kd.R_base HO485.out k_ e_.symm)))) (fun hn_ => (Kd.fresh' (Kd.R_lt (rl HO485)) k_ hn_)), Or.elim hk_ (fun hs_ => Or.elim hs_ (fun hs_ => fun e_ => Nat.not_le.2 hs_ (Kd.R_base HO489.out k_ e_.symm)) (fun hs_ => Or.elim hs_ (fun hs_ => fun e_ => Nat.not_le.2 hs_ (Kd.R_base HO489.out k_ e_.symm)) (fun hs_ => fun e_ => Nat.not_le.2 hs_ (Kd.R_base HO489.out k_ e_.symm)))) (fun hn_ => (Kd.fresh' (Kd.R_lt (rl HO489)) k_ hn_)), Or.elim hk_ (fun hs_ => Or.elim hs_ (fun hs_ => fun e_ => Nat.not_le.2 hs_ (Kd.R_base HO492.out k_ e_.symm)) (fun hs_ => Or.elim hs_ (fun hs_ => fun e_ => Nat.not_le.2 hs_ (Kd.R_base HO492.out k_ e_.symm)) (fun hs_ => fun e_ => Nat.not_le.2 hs_ (Kd.R_base HO492.out k_ e_.symm)))) (fun hn_ => (Kd.fresh' (Kd.R_lt (rl HO492)) k_ hn_)), Or.elim hk_ (fun hs_ => Or.elim hs_ (fun hs_ => fun e_ => Nat.not_le.2 hs_ (by rw [e_]; exact GW419.out)) (fun hs_ => Or.elim hs_ (fun hs_ => fun e_ => Nat.not_le.2 hs_ (by rw [e_]; exact GW419.out)) (fun hs_ => fun e_ => Nat.not_le.2 hs_ (by rw [e_]; exact GW419.out)))) (fun hn_ => (Kd.freshB (kl BK419) k_ hn_)), Or.elim hk_ (fun hs_ => Or.elim hs_ (fun hs_ => fun e_ => Nat.not_le.2 hs_ (by rw [e_]; exact GW420.out)) (fun hs_ => Or.elim hs_ (fun hs_ => fun e_ => Nat.not_le.2 hs_ (by rw [e_]; exact GW420.out)) (fun hs_ => fun e_ => Nat.not_le.2 hs_ (by rw [e_]; exact GW420.out)))) (fun hn_ => (Kd.freshB (kl BK420) k_ hn_))⟩)) (below_size (bl)))
               replace HO496 := aM (Kd.V_below (by (with_reducible repeat (first | apply Kd.V_alloc | apply Kd.V_drewN | apply Kd.V_drew)); exact HO496.out) hb)
               replace BK419 := aM (kB (kl BK419) hb)
               replace BK420 := aM (kB (kl BK420) hb)
               replace HB := aM (bS (bl) hb)
               clear HO482 HO485 HO489 HO492
               (try clear hb)
               (try clear hb2)
               (try clear hk)
               (try clear hi)
               (try clear ho0)
               obtain ⟨Ao141, co141, eo141⟩ := Kd.V_slice HO496.out
               (first | subst eo141 | (injection eo141 with f1_ f2_ f3_; have f4_ := f1_.symm; have f5_ := f3_.symm; clear f1_ f2_ f3_; subst f4_; subst f5_))
               obtain ⟨Ao142, co142, eo142⟩ := Kd.V_slice HO499.out
               (first | subst eo142 | (injection eo142 with f1_ f2_ f3_; have f4_ := f1_.symm; have f5_ := f3_.symm; clear f1_ f2_ f3_; subst f4_; subst f5_))
               refine hK.out _ _ ⟨(kC BK419.out 0).trans rfl, (kC BK419.out 1).trans rfl, (kC BK419.out 2).trans rfl, (kC BK420.out 0).trans rfl, (kC BK420.out 1).trans rfl⟩ (fun hHeld => ?_)
               clear hK K
               refine norm_ (a' := ?_) ?_ ?_
               rotate_left
               ·show Act.put _ (some 119) _ = _
                simp only [Act.put, sA, sB, sC, i64_w, i32_w]
                rfl
               refine one_ (i := 30) (N := some 120) (ba 36 2147483647) rfl rfl (one_of HT_.out (by kernel_rfl)) (by decide) (fun K hK => ?_)
               refine goes_ Try.func28 (by kernel_rfl) rfl #[.slice Ao141 t494.length co141, .slice Ao142 t497.length co142] (by rfl) rfl rfl (by (try simp only [List.map_toArray, List.map_cons, List.map_nil]); first | done | rfl | (simp only [List.length_drop, List.length_take]; rfl)) ?_
               with_reducible refine (mapmakerref14_SameTags.calls kj78 _ _ t494 _ _ t497 true _ ?side1 ?side2 ?side3 ?side4 A125.out).mono ?_
               (case side1 => repeat (first | exact (Kd.V_reads' HO496.out).2.2 | (with_reducible refine cA ?_ _) | (with_reducible refine cN ?_ _) | (with_reducible refine cD ?_)))
               (case side2 => exact (Kd.V_reads' HO496.out).2.1)
               (case side3 => repeat (first | exact (Kd.V_reads' HO499.out).2.2 | (with_reducible refine cA ?_ _) | (with_reducible refine cN ?_ _) | (with_reducible refine cD ?_)))
               (case side4 => exact (Kd.V_reads' HO499.out).2.1)
               rintro e w' ⟨rfl, ⟨nd, rfl⟩⟩
               refine ⟨_, rfl, ?_⟩
               refine hK.out _ _ ⟨(kC BK419.out 0).trans rfl, (kC BK419.out 1).trans rfl, (kC BK419.out 2).trans rfl, (kC BK420.out 0).trans rfl, (kC BK420.out 1).trans rfl⟩ (fun hHeld => ?_)
               clear hK K
               refine norm_ (a' := ?_) ?_ ?_
               rotate_left
               ·show Act.put _ (some 120) _ = _
                simp only [Act.put, sA, sB, sC, i64_w, i32_w]
                rfl
               refine pure_ (i := 31) (N := some 121) (v := ?_) (a' := ?_) (ba 36 4294967295) rfl rfl (any_of HT_.out (by kernel_rfl)) (fun _ _ _ h => h) (Or.inl ⟨by rfl, ?_⟩) ?_ ?_
               rotate_left
               ·intro w'
                go_simp
                with_reducible rfl
               rotate_left
               ·simp only [Act.put, sA, sB, sC, i64_w, i32_w]
                rfl
               refine pure_ (i := 32) (N := some 122) (v := ?_) (a' := ?_) (ba 36 8589934591) rfl rfl (any_of HT_.out (by kernel_rfl)) (fun _ _ _ h => h) (Or.inl ⟨by rfl, ?_⟩) ?_ ?_
               rotate_left
               ·intro w'
                go_simp
                with_reducible rfl
               rotate_left
               ·simp only [Act.put, sA, sB, sC, i64_w, i32_w]
                rfl
               refine one_ (i := 33) (N := some 123) (ba 36 17179869183) rfl rfl (one_of HT_.out (by kernel_rfl)) (by decide) (fun K hK => ?_)
               refine goes_ Try.func9 (by kernel_rfl) rfl #[] (by rfl) rfl rfl (by (try simp only [List.map_toArray, List.map_cons, List.map_nil]); first | done | rfl | (simp only [List.length_drop, List.length_take]; rfl)) ?_
               with_reducible refine (mapmakerlaw14_lives.calls kj78  t501 _ A127.out).mono ?_
               rintro e w143 ⟨rfl, hb⟩
               refine ⟨_, rfl, ?_⟩
               replace BK419 := aM (kB (kl BK419) hb)
               replace BK420 := aM (kB (kl BK420) hb)
               replace HB := aM (bS (bl) hb)
               clear HO496 HO499
               (try clear hb)
               (try clear hb2)
               (try clear hk)
               (try clear hi)
               refine hK.out _ _ ⟨(kC BK419.out 0).trans rfl, (kC BK419.out 1).trans rfl, (kC BK419.out 2).trans rfl, (kC BK420.out 0).trans rfl, (kC BK420.out 1).trans rfl⟩ (fun hHeld => ?_)
               clear hK K
               refine norm_ (a' := ?_) ?_ ?_
               rotate_left
               ·show Act.put _ (some 123) _ = _
                simp only [Act.put, sA, sB, sC, i64_w, i32_w]
                rfl
               refine pure_ (i := 34) (N := some 124) (v := ?_) (a' := ?_) (ba 36 34359738367) rfl rfl (any_of HT_.out (by kernel_rfl)) (fun _ _ _ h => h) (Or.inl ⟨by rfl, ?_⟩) ?_ ?_
               rotate_left
               ·intro w'
                go_simp
                with_reducible rfl
               rotate_left
               ·simp only [Act.put, sA, sB, sC, i64_w, i32_w]
                rfl
               refine pure_ (i := 35) (N := some 4) (v := ?_) (a' := ?_) (ba 36 68719476735) rfl rfl (any_of HT_.out (by kernel_rfl)) (fun _ _ _ h => h) (Or.inl ⟨by rfl, ?_⟩) ?_ ?_
               rotate_left
               ·intro w'
                go_simp
                with_reducible rfl
               rotate_left
               ·simp only [Act.put, sA, sB, sC, i64_w, i32_w]
                rfl
               refine done_ (done_of HT_.out (by kernel_rfl)) ?_
               try go_wp2
               go_ret
               exact ⟨by first | rfl | (simp [errW_none, errW_some] <;> rfl) | (simp [*, errW_none, errW_some] <;> rfl), bl⟩
              ·replace c126 := Bool.eq_false_iff.mpr c126
               subst c126
               have H1 : (some false) = some r := by rw [if_neg (show ¬ (false = true) by decide)] at H; exact H
               clear H
               have H := H1
               clear H1
               obtain rfl := Option.some.inj H
               cases hT
             ·replace c122 := Bool.eq_false_iff.mpr c122
              subst c122
              have H1 : (some false) = some r := by rw [if_neg (show ¬ (false = true) by decide)] at H; exact H
              clear H
              have H := H1
              clear H1
              obtain rfl := Option.some.inj H
              cases hT
            ·replace c118 := Bool.eq_false_iff.mpr c118
             subst c118
             have H1 : (some false) = some r := by rw [if_neg (show ¬ (false = true) by decide)] at H; exact H
             clear H
             have H := H1
             clear H1
             obtain rfl := Option.some.inj H
             cases hT
           ·rw [if_neg c114] at H
            have c114b0 : (t478 == t479) = false := by simpa using c114
            (try (have c114b1 : decide (t478 = t479) = false := by simpa using c114))
            (try (have c114b2 : (t478 == t479) = false := by simpa using c114))
            (try (have c114b3 : ¬ (t478 = t479) := by simpa using c114))
            clear c114
            obtain rfl := Option.some.inj H
            cases hT
 ·replace c4 := Bool.eq_false_iff.mpr c4
  subst c4
  have H1 : ((mapmakerlaw14_lives.f k).bind fun t422 => (some t422)) = some r := by rw [if_neg (show ¬ (false = true) by decide)] at H; exact H
  clear H
  have H := H1
  clear H1
  replace H := Option.bind_eq_some_iff.mp H
  obtain ⟨t422, A1800, H⟩ := H
  try dsimp only at H
  have A180 := aM A1800
  clear A1800
  obtain rfl := Option.some.inj H
  go_enter Try.func4, Try.ntmps4
  go_wp2_with (first | ((with_reducible refine gate_dst (N := 2) rfl ?_); refine bx (N := 2) (cs := #[.slice A0_0 l0_0.length c0_0, .slice A0_1 l0_1.length c0_1, .slice A0_2 l0_2.length c0_2]) (t := 26) ?_; intro gb419 hg w181 hbox hb; have n0_ := aM (bS (bl) hb); have n1_ := aM (hbox); have n3_ := aM (gw (w := w) hg); (try clear HB); have HB := n0_; have BK419 := n1_; have GE419 := n3_; clear n0_ n1_ n3_ hb hbox hg) | ((with_reducible refine gate_dst (N := 3) rfl ?_); refine bx (N := 3) (cs := #[.int .i64 a1_0, .int .i64 a1_1]) (t := 34) ?_; intro gb420 hg w182 hbox hb; have n0_ := aM (kB (kl BK419) hb); have n1_ := aM (bS (bl) hb); have n4_ := aM (gw (w := w) hg); have n5_ := aM (nb BK419 hg); have n6_ := aM (nb BK419 hg).symm; (try clear BK419); (try clear HB); have BK419 := n0_; have HB := n1_; have GE420 := n4_; have NB419_420 := n5_; have NB420_419 := n6_; clear n0_ n1_ n4_ n5_ n6_ hb hbox hg; have hnb183 := NB419_420.out; have hnc183 := NB420_419.out; obtain ⟨hcz184_0, hcz184_1, hcz184_2, hfz184_0, hfz184_1, hfz184_2⟩ := bc3 BK419) | ((with_reducible refine gate_callee (f := 8) rfl ?_); refine gL (some 18) Try.func8 #[.agg #[.slice A0_0 l0_0.length c0_0, .slice A0_1 l0_1.length c0_1, .slice A0_2 l0_2.length c0_2], .int .i64 600] ?_; (with_reducible refine (mapmakerref14_Few.calls k _ _ l0_0 _ _ l0_1 _ _ l0_2 600 false _ ?side1 ?side2 ?side3 ?side4 ?side5 ?side6 A3.out).mono ?_); (case side1 => exact cl HR0_0); (case side2 => exact HC0_0.out); (case side3 => exact cl HR0_1); (case side4 => exact HC0_1.out); (case side5 => exact cl HR0_2); (case side6 => exact HC0_2.out); rintro e w185 ⟨rfl, hb⟩; refine ⟨_, rfl, ?_⟩; have n0_ := aM (kB (kl BK419) hb); have n2_ := aM (bS (bl) hb); (try clear BK419); (try clear HB); have BK419 := n0_; have HB := n2_; clear n0_ n2_; (try clear hb)) | ((with_reducible refine gate_callee (f := 9) rfl ?_); refine gL (some 20) Try.func9 #[] ?_; (with_reducible refine (mapmakerlaw14_lives.calls k  t422 _ A180.out).mono ?_); rintro e w186 ⟨rfl, hb⟩; refine ⟨_, rfl, ?_⟩; have n0_ := aM (kB (kl BK419) hb); have n2_ := aM (bS (bl) hb); (try clear BK419); (try clear HB); have BK419 := n0_; have HB := n2_; clear n0_ n2_; (try clear hb)))
  go_ret
  exact ⟨by first | rfl | (simp [errW_none, errW_some] <;> rfl) | (simp [*, errW_none, errW_some] <;> rfl), bl⟩
theorem mapmakerlaw14_DataFinds.opens_0 : Opens Try.prog 26 k26 (fun x => wf26 x) := opens26
theorem mapmakerlaw14_DataFinds.opens_1 : Opens Try.prog 34 k34 (fun x => wf34 x) := opens34
def mapmakerlaw14_DataFinds.Pure : Prop := ∀ (x0 : S26) (x1 : S34), wf26 x0 → wf34 x1 → ∃ k, mapmakerlaw14_DataFinds.f k x0.f0 x0.f1 x0.f2 x1.f0 x1.f1 = some true
theorem mapmakerlaw14_DataFinds.walk (P : mapmakerlaw14_DataFinds.Pure) (w : World) (x0 : S26) (cs0 : Array Value) (hK0 : k26.K w x0 cs0.toList) (x1 : S34) (cs1 : Array Value) (hK1 : k34.K w x1 cs1.toList) (w0 : wf26 x0) (w1 : wf34 x1) :
  Calls Try.prog 4 #[.agg cs0, .agg cs1] w fun e w' => e = .returned (.bool true) ∧ Below w.heap.size w w' := by
 obtain ⟨k, h⟩ := P x0 x1 w0 w1
 obtain ⟨A0_0, c0_0, A0_1, c0_1, A0_2, c0_2, hcs0, hc0_0, hr0_0, hc0_1, hr0_1, hc0_2, hr0_2⟩ := k26_open hK0
 obtain rfl : cs0 = #[.slice A0_0 x0.f0.length c0_0, .slice A0_1 x0.f1.length c0_1, .slice A0_2 x0.f2.length c0_2] := Array.ext' (by rw [hcs0])
 have hcs1 := k34_open hK1
 obtain rfl : cs1 = #[.int .i64 x1.f0, .int .i64 x1.f1] := Array.ext' (by rw [hcs1])
 refine (mapmakerlaw14_DataFinds.callsT k A0_0 c0_0 x0.f0 A0_1 c0_1 x0.f1 A0_2 c0_2 x0.f2 x1.f0 x1.f1 true w hr0_0 hc0_0 hr0_1 hc0_1 hr0_2 hc0_2 h rfl).mono ?_
 rintro e w' ⟨rfl, hd⟩
 exact ⟨rfl, hd⟩
end Go.Proofs.Ytgenbepicnbecaa.PAll
