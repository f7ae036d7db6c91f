-- out of a driver of this session's prover over the kit's print: Lean checks it
import Derived.Test.YtpgbfjndgbfhnaaPAllx0
import Derived.Test.YtpgbfjndgbfhnaaPAllx4
import Derived.Test.YtpgbfjndgbfhnaaPAllx5
import Derived.Test.YtpgbfjndgbfhnaaPAllx8
import Derived.Test.YtpgbfjndgbfhnaaPAllx9
namespace Go.Proofs.Ytpgbfjndgbfhnaa.PAll
open Go.Proofs.YtpgbfjndgbfhnaaG Go.Shelf Go.Lib
open Go.RowKit Go.Proofs.YtpgbfjndgbfhnaaW.PrintWords Go.Proofs.YtpgbfjndgbfhnaaW.PrintLast Go.Proofs.YtpgbfjndgbfhnaaW.PrintMore
attribute [local go_sem] max2_int min2_int max_two min_two max_three min_three max_four min_four   -- for this text's walks alone
set_option linter.unusedVariables false
set_option linter.unusedSimpArgs false
def mapmakerlaw26_livesG.f (k : Nat)  : Option (Bool) := (mapmakerlaw26_row.f).bind fun bt182 => ((some (([(⟨1, 5⟩ : S40), (⟨1, 0⟩ : S40)] : List (S40)) : List (S40))).bind fun y192 => ((some (([7, 5] : List Int) : List Int)).bind fun y195 => ((generalize_Lines.f k (([(⟨bt182.1, bt182.2.1, bt182.2.2.1, bt182.2.2.2⟩ : S31)] : List (S31))) 0).bind fun t210 => ((mapmakerlaw26_all.f k t210 (([(⟨1, (([(⟨0, 0⟩ : S40), (⟨2, 0⟩ : S40)] : List (S40))), (([4, 6] : List Int)), ([] : List (S80))⟩ : S31)] : List (S31)))).bind fun t216 => (if t216 = true then ((generalize_Lines.f k (([(⟨bt182.1, bt182.2.1, bt182.2.2.1, bt182.2.2.2⟩ : S31), (⟨2, y192, y195, ([] : List (S80))⟩ : S31)] : List (S31))) 0).bind fun t220 => ((mapmakerlaw26_all.f k t220 (([(⟨bt182.1, bt182.2.1, bt182.2.2.1, bt182.2.2.2⟩ : S31), (⟨2, y192, y195, ([] : List (S80))⟩ : S31)] : List (S31)))).bind fun t226 => (if t226 = true then ((generalize_Line.f k bt182.1 bt182.2.1 bt182.2.2.1 bt182.2.2.2 (([(⟨1, 0⟩ : S40)] : List (S40))) 9).bind fun bt230 => ((mapmakerlaw26_same.f k bt230.1 bt230.2.1 bt230.2.2.1 bt230.2.2.2 bt182.1 bt182.2.1 bt182.2.2.1 bt182.2.2.2).bind fun t240 => (if t240 = true then ((generalize_Fixed.f (([(⟨bt182.1, bt182.2.1, bt182.2.2.1, bt182.2.2.2⟩ : S31), (⟨2, y192, y195, ([] : List (S80))⟩ : S31)] : List (S31)))).bind fun t244 => (some ((t244.length : Int) == 4))) else (some false)))) else (some false)))) else (some false))))))
theorem mapmakerlaw26_livesG.mono : ∀ k, LeO (mapmakerlaw26_livesG.f k ) (mapmakerlaw26_livesG.f (k + 1) ) := by
 intro  k
 unfold mapmakerlaw26_livesG.f
 repeat' first
   | (with_reducible exact generalize_Line.mono _ _ _ _ _ _ _)
   | (with_reducible exact generalize_Lines.mono _ _ _)
   | (with_reducible exact mapmakerlaw26_all.mono _ _ _)
   | (with_reducible exact mapmakerlaw26_same.mono _ _ _ _ _ _ _ _ _)
   | (with_reducible exact LeO.refl _)
   | (with_reducible exact LeO.none _)
   | (with_reducible refine LeO.ite ?_ ?_)
   | (with_reducible refine LeO.bind ?_ (fun _ => ?_))
   | exact generalize_Line.mono _ _ _ _ _ _ _
   | exact generalize_Lines.mono _ _ _
   | exact mapmakerlaw26_all.mono _ _ _
   | exact mapmakerlaw26_same.mono _ _ _ _ _ _ _ _ _
   | exact LeO.none _
   | refine LeO.ite ?_ ?_
   | refine LeO.bind ?_ (fun _ => ?_)
def mapmakerlaw26_livesG.T3 : Bool × List (List Nat × List Nat) := (true, [([], []), ([0], [0]), ([1], [1]), ([], []), ([3], [3]), ([2, 4, 2], [2, 4]), ([5, 5], [5]), ([6], [6]), ([6], [6]), ([7, 8, 6], [6, 7, 8]), ([9, 6, 6], [6, 9]), ([6], [6]), ([6], [6]), ([11, 12, 6], [6, 11, 12]), ([10, 13, 10, 6], [6, 10, 13]), ([6, 14], [6, 14]), ([15, 14], [15]), ([16], [16]), ([16], [16]), ([18, 16], [16, 18]), ([17, 19, 16, 16], [16, 17, 19]), ([16], [16]), ([20, 21, 20, 16], [16, 20, 21]), ([16, 22], [16, 22]), ([23, 22], [23]), ([24], [24]), ([24], [24]), ([25, 26, 24], [24, 25, 26]), ([27, 24, 24], [24, 27]), ([28, 24], [24, 28]), ([29, 24], [24, 29]), ([24, 30], [24, 30]), ([31, 28, 0, 1, 2, 3, 4, 5, 6, 7, 8, 9, 10, 11, 12, 13, 14, 15, 16, 17, 18, 19, 20, 21, 22, 23, 24, 25, 26, 27, 28, 29, 30, 31], [31])])
def mapmakerlaw26_livesG.B3 : List Nat := [0, 1, 3, 0, 8, 31, 63, 127, 127, 511, 1023, 127, 127, 6271, 16383, 32767, 65535, 131071, 131071, 393215, 1048575, 131071, 4194303, 8388607, 16777215, 33554431, 33554431, 134217727, 268435455, 536870911, 1073741823, 2147483647, 4294967295]
theorem mapmakerlaw26_livesG.tab3 : rtab .any (opsOf Try.f8 3) = mapmakerlaw26_livesG.T3 := by kernel_rfl
theorem mapmakerlaw26_livesG.bits3 : waitsOk mapmakerlaw26_livesG.T3.2 mapmakerlaw26_livesG.B3 = true := by kernel_rfl
set_option maxHeartbeats 8000000 in
set_option maxRecDepth 100000 in
theorem mapmakerlaw26_livesG.callsT (k : Nat)  (r : Bool) (w : World) (h : mapmakerlaw26_livesG.f k  = some r) (hT : r = true) :
  Calls Try.prog 8 #[] w fun e w' => e = .returned (.bool r) ∧ Below w.heap.size w w' := by
 have hu40 := Try.underlying40
 have hu31 := Try.underlying31
 have HB := aM (Below.refl w.heap.size w)
 have H : ((mapmakerlaw26_row.f).bind fun bt182 => ((some (([(⟨1, 5⟩ : S40), (⟨1, 0⟩ : S40)] : List (S40)) : List (S40))).bind fun y192 => ((some (([7, 5] : List Int) : List Int)).bind fun y195 => ((generalize_Lines.f k (([(⟨bt182.1, bt182.2.1, bt182.2.2.1, bt182.2.2.2⟩ : S31)] : List (S31))) 0).bind fun t210 => ((mapmakerlaw26_all.f k t210 (([(⟨1, (([(⟨0, 0⟩ : S40), (⟨2, 0⟩ : S40)] : List (S40))), (([4, 6] : List Int)), ([] : List (S80))⟩ : S31)] : List (S31)))).bind fun t216 => (if t216 = true then ((generalize_Lines.f k (([(⟨bt182.1, bt182.2.1, bt182.2.2.1, bt182.2.2.2⟩ : S31), (⟨2, y192, y195, ([] : List (S80))⟩ : S31)] : List (S31))) 0).bind fun t220 => ((mapmakerlaw26_all.f k t220 (([(⟨bt182.1, bt182.2.1, bt182.2.2.1, bt182.2.2.2⟩ : S31), (⟨2, y192, y195, ([] : List (S80))⟩ : S31)] : List (S31)))).bind fun t226 => (if t226 = true then ((generalize_Line.f k bt182.1 bt182.2.1 bt182.2.2.1 bt182.2.2.2 (([(⟨1, 0⟩ : S40)] : List (S40))) 9).bind fun bt230 => ((mapmakerlaw26_same.f k bt230.1 bt230.2.1 bt230.2.2.1 bt230.2.2.2 bt182.1 bt182.2.1 bt182.2.2.1 bt182.2.2.2).bind fun t240 => (if t240 = true then ((generalize_Fixed.f (([(⟨bt182.1, bt182.2.1, bt182.2.2.1, bt182.2.2.2⟩ : S31), (⟨2, y192, y195, ([] : List (S80))⟩ : S31)] : List (S31)))).bind fun t244 => (some ((t244.length : Int) == 4))) else (some false)))) else (some false)))) else (some false))))))) = some r := h
 clear h
 replace H := Option.bind_eq_some_iff.mp H
 obtain ⟨⟨t182, t183, t186, t189⟩, A10, H⟩ := H
 replace H : ((some (([(⟨1, 5⟩ : S40), (⟨1, 0⟩ : S40)] : List (S40)) : List (S40))).bind fun y192 => ((some (([7, 5] : List Int) : List Int)).bind fun y195 => ((generalize_Lines.f k (([(⟨t182, t183, t186, t189⟩ : S31)] : List (S31))) 0).bind fun t210 => ((mapmakerlaw26_all.f k t210 (([(⟨1, (([(⟨0, 0⟩ : S40), (⟨2, 0⟩ : S40)] : List (S40))), (([4, 6] : List Int)), ([] : List (S80))⟩ : S31)] : List (S31)))).bind fun t216 => (if t216 = true then ((generalize_Lines.f k (([(⟨t182, t183, t186, t189⟩ : S31), (⟨2, y192, y195, ([] : List (S80))⟩ : S31)] : List (S31))) 0).bind fun t220 => ((mapmakerlaw26_all.f k t220 (([(⟨t182, t183, t186, t189⟩ : S31), (⟨2, y192, y195, ([] : List (S80))⟩ : S31)] : List (S31)))).bind fun t226 => (if t226 = true then ((generalize_Line.f k t182 t183 t186 t189 (([(⟨1, 0⟩ : S40)] : List (S40))) 9).bind fun bt230 => ((mapmakerlaw26_same.f k bt230.1 bt230.2.1 bt230.2.2.1 bt230.2.2.2 t182 t183 t186 t189).bind fun t240 => (if t240 = true then ((generalize_Fixed.f (([(⟨t182, t183, t186, t189⟩ : S31), (⟨2, y192, y195, ([] : List (S80))⟩ : S31)] : List (S31)))).bind fun t244 => (some ((t244.length : Int) == 4))) else (some false)))) else (some false)))) else (some false)))))) = some r := H
 have A1 := aM A10
 clear A10
 obtain ⟨y192, hy192⟩ : ∃ y_ : List (S40), y_ = (([(⟨1, 5⟩ : S40), (⟨1, 0⟩ : S40)] : List (S40))) := ⟨_, rfl⟩
 replace H : ((some (([7, 5] : List Int) : List Int)).bind fun y195 => ((generalize_Lines.f k (([(⟨t182, t183, t186, t189⟩ : S31)] : List (S31))) 0).bind fun t210 => ((mapmakerlaw26_all.f k t210 (([(⟨1, (([(⟨0, 0⟩ : S40), (⟨2, 0⟩ : S40)] : List (S40))), (([4, 6] : List Int)), ([] : List (S80))⟩ : S31)] : List (S31)))).bind fun t216 => (if t216 = true then ((generalize_Lines.f k (([(⟨t182, t183, t186, t189⟩ : S31), (⟨2, y192, y195, ([] : List (S80))⟩ : S31)] : List (S31))) 0).bind fun t220 => ((mapmakerlaw26_all.f k t220 (([(⟨t182, t183, t186, t189⟩ : S31), (⟨2, y192, y195, ([] : List (S80))⟩ : S31)] : List (S31)))).bind fun t226 => (if t226 = true then ((generalize_Line.f k t182 t183 t186 t189 (([(⟨1, 0⟩ : S40)] : List (S40))) 9).bind fun bt230 => ((mapmakerlaw26_same.f k bt230.1 bt230.2.1 bt230.2.2.1 bt230.2.2.2 t182 t183 t186 t189).bind fun t240 => (if t240 = true then ((generalize_Fixed.f (([(⟨t182, t183, t186, t189⟩ : S31), (⟨2, y192, y195, ([] : List (S80))⟩ : S31)] : List (S31)))).bind fun t244 => (some ((t244.length : Int) == 4))) else (some false)))) else (some false)))) else (some false))))) = some r := by first | (rw [hy192]; with_reducible exact H) | (have H2_ := (Option.bind_some _ _).symm.trans H; rw [hy192]; with_reducible exact H2_) | (have H2_ := (Option.bind_some _ _).symm.trans H; with_reducible exact H2_) | with_reducible exact H | (rw [hy192]; exact H) | exact H
 have Ny192 := aM hy192
 clear hy192
 obtain ⟨y195, hy195⟩ : ∃ y_ : List Int, y_ = (([7, 5] : List Int)) := ⟨_, rfl⟩
 replace H : ((generalize_Lines.f k (([(⟨t182, t183, t186, t189⟩ : S31)] : List (S31))) 0).bind fun t210 => ((mapmakerlaw26_all.f k t210 (([(⟨1, (([(⟨0, 0⟩ : S40), (⟨2, 0⟩ : S40)] : List (S40))), (([4, 6] : List Int)), ([] : List (S80))⟩ : S31)] : List (S31)))).bind fun t216 => (if t216 = true then ((generalize_Lines.f k (([(⟨t182, t183, t186, t189⟩ : S31), (⟨2, y192, y195, ([] : List (S80))⟩ : S31)] : List (S31))) 0).bind fun t220 => ((mapmakerlaw26_all.f k t220 (([(⟨t182, t183, t186, t189⟩ : S31), (⟨2, y192, y195, ([] : List (S80))⟩ : S31)] : List (S31)))).bind fun t226 => (if t226 = true then ((generalize_Line.f k t182 t183 t186 t189 (([(⟨1, 0⟩ : S40)] : List (S40))) 9).bind fun bt230 => ((mapmakerlaw26_same.f k bt230.1 bt230.2.1 bt230.2.2.1 bt230.2.2.2 t182 t183 t186 t189).bind fun t240 => (if t240 = true then ((generalize_Fixed.f (([(⟨t182, t183, t186, t189⟩ : S31), (⟨2, y192, y195, ([] : List (S80))⟩ : S31)] : List (S31)))).bind fun t244 => (some ((t244.length : Int) == 4))) else (some false)))) else (some false)))) else (some false)))) = some r := by first | (rw [hy195]; with_reducible exact H) | (have H2_ := (Option.bind_some _ _).symm.trans H; rw [hy195]; with_reducible exact H2_) | (have H2_ := (Option.bind_some _ _).symm.trans H; with_reducible exact H2_) | with_reducible exact H | (rw [hy195]; exact H) | exact H
 have Ny195 := aM hy195
 clear hy195
 obtain ⟨y200, hy200⟩ : ∃ y_ : List (S40), y_ = (([(⟨0, 0⟩ : S40), (⟨2, 0⟩ : S40)] : List (S40))) := ⟨_, rfl⟩
 replace H : ((generalize_Lines.f k (([(⟨t182, t183, t186, t189⟩ : S31)] : List (S31))) 0).bind fun t210 => ((mapmakerlaw26_all.f k t210 (([(⟨1, y200, (([4, 6] : List Int)), ([] : List (S80))⟩ : S31)] : List (S31)))).bind fun t216 => (if t216 = true then ((generalize_Lines.f k (([(⟨t182, t183, t186, t189⟩ : S31), (⟨2, y192, y195, ([] : List (S80))⟩ : S31)] : List (S31))) 0).bind fun t220 => ((mapmakerlaw26_all.f k t220 (([(⟨t182, t183, t186, t189⟩ : S31), (⟨2, y192, y195, ([] : List (S80))⟩ : S31)] : List (S31)))).bind fun t226 => (if t226 = true then ((generalize_Line.f k t182 t183 t186 t189 (([(⟨1, 0⟩ : S40)] : List (S40))) 9).bind fun bt230 => ((mapmakerlaw26_same.f k bt230.1 bt230.2.1 bt230.2.2.1 bt230.2.2.2 t182 t183 t186 t189).bind fun t240 => (if t240 = true then ((generalize_Fixed.f (([(⟨t182, t183, t186, t189⟩ : S31), (⟨2, y192, y195, ([] : List (S80))⟩ : S31)] : List (S31)))).bind fun t244 => (some ((t244.length : Int) == 4))) else (some false)))) else (some false)))) else (some false)))) = some r := by first | (rw [hy200]; with_reducible exact H) | (have H2_ := (Option.bind_some _ _).symm.trans H; rw [hy200]; with_reducible exact H2_) | (have H2_ := (Option.bind_some _ _).symm.trans H; with_reducible exact H2_) | with_reducible exact H | (rw [hy200]; exact H) | exact H
 have Ny200 := aM hy200
 clear hy200
 obtain ⟨y203, hy203⟩ : ∃ y_ : List Int, y_ = (([4, 6] : List Int)) := ⟨_, rfl⟩
 replace H : ((generalize_Lines.f k (([(⟨t182, t183, t186, t189⟩ : S31)] : List (S31))) 0).bind fun t210 => ((mapmakerlaw26_all.f k t210 (([(⟨1, y200, y203, ([] : List (S80))⟩ : S31)] : List (S31)))).bind fun t216 => (if t216 = true then ((generalize_Lines.f k (([(⟨t182, t183, t186, t189⟩ : S31), (⟨2, y192, y195, ([] : List (S80))⟩ : S31)] : List (S31))) 0).bind fun t220 => ((mapmakerlaw26_all.f k t220 (([(⟨t182, t183, t186, t189⟩ : S31), (⟨2, y192, y195, ([] : List (S80))⟩ : S31)] : List (S31)))).bind fun t226 => (if t226 = true then ((generalize_Line.f k t182 t183 t186 t189 (([(⟨1, 0⟩ : S40)] : List (S40))) 9).bind fun bt230 => ((mapmakerlaw26_same.f k bt230.1 bt230.2.1 bt230.2.2.1 bt230.2.2.2 t182 t183 t186 t189).bind fun t240 => (if t240 = true then ((generalize_Fixed.f (([(⟨t182, t183, t186, t189⟩ : S31), (⟨2, y192, y195, ([] : List (S80))⟩ : S31)] : List (S31)))).bind fun t244 => (some ((t244.length : Int) == 4))) else (some false)))) else (some false)))) else (some false)))) = some r := by first | (rw [hy203]; with_reducible exact H) | (have H2_ := (Option.bind_some _ _).symm.trans H; rw [hy203]; with_reducible exact H2_) | (have H2_ := (Option.bind_some _ _).symm.trans H; with_reducible exact H2_) | with_reducible exact H | (rw [hy203]; exact H) | exact H
 have Ny203 := aM hy203
 clear hy203
 obtain ⟨y207, hy207⟩ : ∃ y_ : List (S31), y_ = (([(⟨t182, t183, t186, t189⟩ : S31)] : List (S31))) := ⟨_, rfl⟩
 replace H : ((generalize_Lines.f k y207 0).bind fun t210 => ((mapmakerlaw26_all.f k t210 (([(⟨1, y200, y203, ([] : List (S80))⟩ : S31)] : List (S31)))).bind fun t216 => (if t216 = true then ((generalize_Lines.f k (([(⟨t182, t183, t186, t189⟩ : S31), (⟨2, y192, y195, ([] : List (S80))⟩ : S31)] : List (S31))) 0).bind fun t220 => ((mapmakerlaw26_all.f k t220 (([(⟨t182, t183, t186, t189⟩ : S31), (⟨2, y192, y195, ([] : List (S80))⟩ : S31)] : List (S31)))).bind fun t226 => (if t226 = true then ((generalize_Line.f k t182 t183 t186 t189 (([(⟨1, 0⟩ : S40)] : List (S40))) 9).bind fun bt230 => ((mapmakerlaw26_same.f k bt230.1 bt230.2.1 bt230.2.2.1 bt230.2.2.2 t182 t183 t186 t189).bind fun t240 => (if t240 = true then ((generalize_Fixed.f (([(⟨t182, t183, t186, t189⟩ : S31), (⟨2, y192, y195, ([] : List (S80))⟩ : S31)] : List (S31)))).bind fun t244 => (some ((t244.length : Int) == 4))) else (some false)))) else (some false)))) else (some false)))) = some r := by first | (rw [hy207]; with_reducible exact H) | (have H2_ := (Option.bind_some _ _).symm.trans H; rw [hy207]; with_reducible exact H2_) | (have H2_ := (Option.bind_some _ _).symm.trans H; with_reducible exact H2_) | with_reducible exact H | (rw [hy207]; exact H) | exact H
 have Ny207 := aM hy207
 clear hy207
 replace H := Option.bind_eq_some_iff.mp H
 obtain ⟨t210, A20, H⟩ := H
 try dsimp only at H
 have A2 := aM A20
 clear A20
 obtain ⟨y213, hy213⟩ : ∃ y_ : List (S31), y_ = (([(⟨1, y200, y203, ([] : List (S80))⟩ : S31)] : List (S31))) := ⟨_, rfl⟩
 replace H : ((mapmakerlaw26_all.f k t210 y213).bind fun t216 => (if t216 = true then ((generalize_Lines.f k (([(⟨t182, t183, t186, t189⟩ : S31), (⟨2, y192, y195, ([] : List (S80))⟩ : S31)] : List (S31))) 0).bind fun t220 => ((mapmakerlaw26_all.f k t220 (([(⟨t182, t183, t186, t189⟩ : S31), (⟨2, y192, y195, ([] : List (S80))⟩ : S31)] : List (S31)))).bind fun t226 => (if t226 = true then ((generalize_Line.f k t182 t183 t186 t189 (([(⟨1, 0⟩ : S40)] : List (S40))) 9).bind fun bt230 => ((mapmakerlaw26_same.f k bt230.1 bt230.2.1 bt230.2.2.1 bt230.2.2.2 t182 t183 t186 t189).bind fun t240 => (if t240 = true then ((generalize_Fixed.f (([(⟨t182, t183, t186, t189⟩ : S31), (⟨2, y192, y195, ([] : List (S80))⟩ : S31)] : List (S31)))).bind fun t244 => (some ((t244.length : Int) == 4))) else (some false)))) else (some false)))) else (some false))) = some r := by first | (rw [hy213]; with_reducible exact H) | (have H2_ := (Option.bind_some _ _).symm.trans H; rw [hy213]; with_reducible exact H2_) | (have H2_ := (Option.bind_some _ _).symm.trans H; with_reducible exact H2_) | with_reducible exact H | (rw [hy213]; exact H) | exact H
 have Ny213 := aM hy213
 clear hy213
 replace H := Option.bind_eq_some_iff.mp H
 obtain ⟨t216, A30, H⟩ := H
 try dsimp only at H
 have A3 := aM A30
 clear A30
 by_cases c4 : t216 = true
 ·subst c4
  have H1 : ((generalize_Lines.f k (([(⟨t182, t183, t186, t189⟩ : S31), (⟨2, y192, y195, ([] : List (S80))⟩ : S31)] : List (S31))) 0).bind fun t220 => ((mapmakerlaw26_all.f k t220 (([(⟨t182, t183, t186, t189⟩ : S31), (⟨2, y192, y195, ([] : List (S80))⟩ : S31)] : List (S31)))).bind fun t226 => (if t226 = true then ((generalize_Line.f k t182 t183 t186 t189 (([(⟨1, 0⟩ : S40)] : List (S40))) 9).bind fun bt230 => ((mapmakerlaw26_same.f k bt230.1 bt230.2.1 bt230.2.2.1 bt230.2.2.2 t182 t183 t186 t189).bind fun t240 => (if t240 = true then ((generalize_Fixed.f (([(⟨t182, t183, t186, t189⟩ : S31), (⟨2, y192, y195, ([] : List (S80))⟩ : S31)] : List (S31)))).bind fun t244 => (some ((t244.length : Int) == 4))) else (some false)))) else (some false)))) = some r := by rw [if_pos rfl] at H; exact H
  clear H
  have H := H1
  clear H1
  obtain ⟨y217, hy217⟩ : ∃ y_ : List (S31), y_ = (([(⟨t182, t183, t186, t189⟩ : S31), (⟨2, y192, y195, ([] : List (S80))⟩ : S31)] : List (S31))) := ⟨_, rfl⟩
  replace H : ((generalize_Lines.f k y217 0).bind fun t220 => ((mapmakerlaw26_all.f k t220 (([(⟨t182, t183, t186, t189⟩ : S31), (⟨2, y192, y195, ([] : List (S80))⟩ : S31)] : List (S31)))).bind fun t226 => (if t226 = true then ((generalize_Line.f k t182 t183 t186 t189 (([(⟨1, 0⟩ : S40)] : List (S40))) 9).bind fun bt230 => ((mapmakerlaw26_same.f k bt230.1 bt230.2.1 bt230.2.2.1 bt230.2.2.2 t182 t183 t186 t189).bind fun t240 => (if t240 = true then ((generalize_Fixed.f (([(⟨t182, t183, t186, t189⟩ : S31), (⟨2, y192, y195, ([] : List (S80))⟩ : S31)] : List (S31)))).bind fun t244 => (some ((t244.length : Int) == 4))) else (some false)))) else (some false)))) = some r := by first | (rw [hy217]; with_reducible exact H) | (have H2_ := (Option.bind_some _ _).symm.trans H; rw [hy217]; with_reducible exact H2_) | (have H2_ := (Option.bind_some _ _).symm.trans H; with_reducible exact H2_) | with_reducible exact H | (rw [hy217]; exact H) | exact H
  have Ny217 := aM hy217
  clear hy217
  replace H := Option.bind_eq_some_iff.mp H
  obtain ⟨t220, A50, H⟩ := H
  try dsimp only at H
  have A5 := aM A50
  clear A50
  obtain ⟨y223, hy223⟩ : ∃ y_ : List (S31), y_ = (([(⟨t182, t183, t186, t189⟩ : S31), (⟨2, y192, y195, ([] : List (S80))⟩ : S31)] : List (S31))) := ⟨_, rfl⟩
  replace H : ((mapmakerlaw26_all.f k t220 y223).bind fun t226 => (if t226 = true then ((generalize_Line.f k t182 t183 t186 t189 (([(⟨1, 0⟩ : S40)] : List (S40))) 9).bind fun bt230 => ((mapmakerlaw26_same.f k bt230.1 bt230.2.1 bt230.2.2.1 bt230.2.2.2 t182 t183 t186 t189).bind fun t240 => (if t240 = true then ((generalize_Fixed.f (([(⟨t182, t183, t186, t189⟩ : S31), (⟨2, y192, y195, ([] : List (S80))⟩ : S31)] : List (S31)))).bind fun t244 => (some ((t244.length : Int) == 4))) else (some false)))) else (some false))) = some r := by first | (rw [hy223]; with_reducible exact H) | (have H2_ := (Option.bind_some _ _).symm.trans H; rw [hy223]; with_reducible exact H2_) | (have H2_ := (Option.bind_some _ _).symm.trans H; with_reducible exact H2_) | with_reducible exact H | (rw [hy223]; exact H) | exact H
  have Ny223 := aM hy223
  clear hy223
  replace H := Option.bind_eq_some_iff.mp H
  obtain ⟨t226, A60, H⟩ := H
  try dsimp only at H
  have A6 := aM A60
  clear A60
  by_cases c7 : t226 = true
  ·subst c7
   have H1 : ((generalize_Line.f k t182 t183 t186 t189 (([(⟨1, 0⟩ : S40)] : List (S40))) 9).bind fun bt230 => ((mapmakerlaw26_same.f k bt230.1 bt230.2.1 bt230.2.2.1 bt230.2.2.2 t182 t183 t186 t189).bind fun t240 => (if t240 = true then ((generalize_Fixed.f (([(⟨t182, t183, t186, t189⟩ : S31), (⟨2, y192, y195, ([] : List (S80))⟩ : S31)] : List (S31)))).bind fun t244 => (some ((t244.length : Int) == 4))) else (some false)))) = some r := by rw [if_pos rfl] at H; exact H
   clear H
   have H := H1
   clear H1
   obtain ⟨y227, hy227⟩ : ∃ y_ : List (S40), y_ = (([(⟨1, 0⟩ : S40)] : List (S40))) := ⟨_, rfl⟩
   replace H : ((generalize_Line.f k t182 t183 t186 t189 y227 9).bind fun bt230 => ((mapmakerlaw26_same.f k bt230.1 bt230.2.1 bt230.2.2.1 bt230.2.2.2 t182 t183 t186 t189).bind fun t240 => (if t240 = true then ((generalize_Fixed.f (([(⟨t182, t183, t186, t189⟩ : S31), (⟨2, y192, y195, ([] : List (S80))⟩ : S31)] : List (S31)))).bind fun t244 => (some ((t244.length : Int) == 4))) else (some false)))) = some r := by first | (rw [hy227]; with_reducible exact H) | (have H2_ := (Option.bind_some _ _).symm.trans H; rw [hy227]; with_reducible exact H2_) | (have H2_ := (Option.bind_some _ _).symm.trans H; with_reducible exact H2_) | with_reducible exact H | (rw [hy227]; exact H) | exact H
   have Ny227 := aM hy227
   clear hy227
   replace H := Option.bind_eq_some_iff.mp H
   obtain ⟨⟨t230, t231, t234, t237⟩, A80, H⟩ := H
   replace H : ((mapmakerlaw26_same.f k t230 t231 t234 t237 t182 t183 t186 t189).bind fun t240 => (if t240 = true then ((generalize_Fixed.f (([(⟨t182, t183, t186, t189⟩ : S31), (⟨2, y192, y195, ([] : List (S80))⟩ : S31)] : List (S31)))).bind fun t244 => (some ((t244.length : Int) == 4))) else (some false))) = some r := H
   have A8 := aM A80
   clear A80
   replace H := Option.bind_eq_some_iff.mp H
   obtain ⟨t240, A90, H⟩ := H
   try dsimp only at H
   have A9 := aM A90
   clear A90
   by_cases c10 : t240 = true
   ·subst c10
    have H1 : ((generalize_Fixed.f (([(⟨t182, t183, t186, t189⟩ : S31), (⟨2, y192, y195, ([] : List (S80))⟩ : S31)] : List (S31)))).bind fun t244 => (some ((t244.length : Int) == 4))) = some r := by rw [if_pos rfl] at H; exact H
    clear H
    have H := H1
    clear H1
    obtain ⟨y241, hy241⟩ : ∃ y_ : List (S31), y_ = (([(⟨t182, t183, t186, t189⟩ : S31), (⟨2, y192, y195, ([] : List (S80))⟩ : S31)] : List (S31))) := ⟨_, rfl⟩
    replace H : ((generalize_Fixed.f y241).bind fun t244 => (some ((t244.length : Int) == 4))) = some r := by first | (rw [hy241]; with_reducible exact H) | (have H2_ := (Option.bind_some _ _).symm.trans H; rw [hy241]; with_reducible exact H2_) | (have H2_ := (Option.bind_some _ _).symm.trans H; with_reducible exact H2_) | with_reducible exact H | (rw [hy241]; exact H) | exact H
    have Ny241 := aM hy241
    clear hy241
    replace H := Option.bind_eq_some_iff.mp H
    obtain ⟨t244, A110, H⟩ := H
    try dsimp only at H
    have A11 := aM A110
    clear A110
    obtain rfl := Option.some.inj H
    go_enter Try.func8, Try.ntmps8
    try go_wp2_with (first | ((with_reducible refine gate_callee (f := 20) rfl ?_); refine goesL_ (some 4) rfl rfl Try.func20 (by kernel_rfl) rfl #[] rfl (by (try simp only [List.map_toArray, List.map_cons, List.map_nil]); first | done | rfl | (simp only [List.length_drop, List.length_take]; rfl)) ?_; (with_reducible refine (mapmakerlaw26_row.calls  t182 t183 t186 t189 _ A1.out).mono ?_); rintro e w12 ⟨v184, v187, v190, rfl, ho0, ho1, ho2, hb⟩; refine ⟨_, rfl, ?_⟩; have HO185 := aM (Kd.R_lower ho0 (below_size (bl))); have HO188 := aM (Kd.R_lower ho1 (below_size (bl))); have HO191 := aM (Kd.R_lower ho2 (below_size (bl))); replace HB := aM (bS (bl) hb); (try clear hb); (try clear hb2); (try clear hk); (try clear hi); (try clear ho0); (try clear ho1); (try clear ho2)) | ((with_reducible refine gate_dst (N := 7) rfl ?_); (try (refine gate_guard (by rfl) ?_; dsimp only)); refine Kd.R_lit k40 _ 40 ?hg (N := 7) ?hd (xs := ([(⟨1, 5⟩ : S40), (⟨1, 0⟩ : S40)] : List (S40))) (inner := [.int .i64 1, .int .i64 5, .int .i64 1, .int .i64 0]) (ok := fun _ => True) (okp := fun _ => True) ?hr ?hp (fun _ hk => hk) trivial (Below.refl _ _) (Nat.le_refl _) (by simp) ?_; (case hd => rfl); (case hg => rfl); (case hr => first | (go_simp; done) | (go_simp; rfl)); (case hp => exact (Reps.c2 (show Kd.M k40 _ _ _ (⟨1, 5⟩ : S40) [.int .i64 1, .int .i64 5] from (k40_mkM _ _ _ (⟨1, 5⟩ : S40) )) (Reps.c2 (show Kd.M k40 _ _ _ (⟨1, 0⟩ : S40) [.int .i64 1, .int .i64 0] from (k40_mkM _ _ _ (⟨1, 0⟩ : S40) )) (Reps.none _ _)))); intro v193 w13 ho14 hb hg_ hnew_; clear hg_ hnew_; (first | rw [← Ny192.out] at ho14 | (simp only [Int.reduceToNat] at ho14; rw [← Ny192.out] at ho14)); have n0_ := aM (rB (rl HO185) hb); have n1_ := aM (rB (rl HO188) hb); have n2_ := aM (rB (rl HO191) hb); have n3_ := aM (Kd.R_lower ho14 (below_size (bl))); have n4_ := aM (bS (bl) hb); clear HO185 HO188 HO191 HB; have HO185 := n0_; have HO188 := n1_; have HO191 := n2_; have HO194 := n3_; have HB := n4_; clear n0_ n1_ n2_ n3_ n4_ hb ho14) | ((with_reducible refine gate_dst (N := 8) rfl ?_); (try (refine gate_guard (by rfl) ?_; dsimp only)); refine Kd.R_lit (Kd.int .i64) _ 3 ?hg (N := 8) ?hd (xs := ([7, 5] : List Int)) (inner := [.int .i64 7, .int .i64 5]) (ok := fun _ => True) (okp := fun _ => True) ?hr ?hp (fun _ hk => hk) trivial (Below.refl _ _) (Nat.le_refl _) (by simp) ?_; (case hd => rfl); (case hg => rfl); (case hr => first | (go_simp; done) | (go_simp; rfl)); (case hp => exact (Reps.one (show Kd.M (Kd.int .i64) _ _ _ 7 [.int .i64 7] from rfl) (Reps.one (show Kd.M (Kd.int .i64) _ _ _ 5 [.int .i64 5] from rfl) (Reps.none _ _)))); intro v196 w15 ho16 hb hg_ hnew_; clear hg_ hnew_; (first | rw [← Ny195.out] at ho16 | (simp only [Int.reduceToNat] at ho16; rw [← Ny195.out] at ho16)); have n0_ := aM (rB (rl HO185) hb); have n1_ := aM (rB (rl HO188) hb); have n2_ := aM (rB (rl HO191) hb); have n3_ := aM (rB (rl HO194) hb); have n4_ := aM (Kd.R_lower ho16 (below_size (bl))); have n5_ := aM (bS (bl) hb); clear HO185 HO188 HO191 HO194 HB; have HO185 := n0_; have HO188 := n1_; have HO191 := n2_; have HO194 := n3_; have HO197 := n4_; have HB := n5_; clear n0_ n1_ n2_ n3_ n4_ n5_ hb ho16; obtain ⟨Ao17, co17, eo17⟩ := Kd.R_slice HO197.out; subst eo17; obtain ⟨Ao18, co18, eo18⟩ := Kd.R_slice HO194.out; subst eo18) | ((with_reducible refine gate_dst (N := 1) rfl ?_); (try (refine gate_guard (by rfl) ?_; dsimp only)); refine box_event ?hg (N := 1) ?hd (cs := #[.int .i64 0, .slice none 0 0, .slice none 0 0, .slice none 0 0]) (t := 31) ?hr ?_; (case hd => rfl); (case hg => rfl); (case hr => first | (go_simp; done) | (go_simp; rfl)); intro gb198 hg w19 hbox hb; have n0_ := aM (rB (rl HO185) hb); have n1_ := aM (rB (rl HO188) hb); have n2_ := aM (rB (rl HO191) hb); have n3_ := aM (rB (rl HO194) hb); have n4_ := aM (rB (rl HO197) hb); have n5_ := aM (bS (bl) hb); have n6_ := aM (hbox); have n7_ := aM ((by rw [hg]; exact (below_size (bl)) : w.heap.size ≤ gb198)); have n8_ := aM ((by rw [hg]; exact (below_size (bl)) : w.heap.size ≤ gb198)); clear HO185 HO188 HO191 HO194 HO197 HB; have HO185 := n0_; have HO188 := n1_; have HO191 := n2_; have HO194 := n3_; have HO197 := n4_; have HB := n5_; have BK198 := n6_; have GW198 := n7_; have GE198 := n8_; clear n0_ n1_ n2_ n3_ n4_ n5_ n6_ n7_ n8_ hb hbox hg) | ((with_reducible refine gate_dst (N := 2) rfl ?_); (try (refine gate_guard (by rfl) ?_; dsimp only)); refine box_event ?hg (N := 2) ?hd (cs := #[.int .i64 0, .slice none 0 0, .slice none 0 0, .slice none 0 0]) (t := 31) ?hr ?_; (case hd => rfl); (case hg => rfl); (case hr => first | (go_simp; done) | (go_simp; rfl)); intro gb199 hg w20 hbox hb; have n0_ := aM (rB (rl HO185) hb); have n1_ := aM (rB (rl HO188) hb); have n2_ := aM (rB (rl HO191) hb); have n3_ := aM (rB (rl HO194) hb); have n4_ := aM (rB (rl HO197) hb); have n5_ := aM (kB (g := gb198) (o := .cells #[.int .i64 0, .slice none 0 0, .slice none 0 0, .slice none 0 0] 31 (0, 0)) (kl BK198) hb); have n6_ := aM (bS (bl) hb); have n7_ := aM (hbox); have n8_ := aM ((by rw [hg]; exact (below_size (bl)) : w.heap.size ≤ gb199)); have n9_ := aM ((by rw [hg]; exact (below_size (bl)) : w.heap.size ≤ gb199)); have n10_ := aM ((by rw [hg]; exact Nat.ne_of_lt (blk_lt (g := gb198) (o := .cells #[.int .i64 0, .slice none 0 0, .slice none 0 0, .slice none 0 0] 31 (0, 0)) (kl BK198)) : gb198 ≠ gb199)); have n11_ := aM ((by rw [hg]; exact Nat.ne_of_gt (blk_lt (g := gb198) (o := .cells #[.int .i64 0, .slice none 0 0, .slice none 0 0, .slice none 0 0] 31 (0, 0)) (kl BK198)) : gb199 ≠ gb198)); clear HO185 HO188 HO191 HO194 HO197 BK198 HB; have HO185 := n0_; have HO188 := n1_; have HO191 := n2_; have HO194 := n3_; have HO197 := n4_; have BK198 := n5_; have HB := n6_; have BK199 := n7_; have GW199 := n8_; have GE199 := n9_; have NB198_199 := n10_; have NB199_198 := n11_; clear n0_ n1_ n2_ n3_ n4_ n5_ n6_ n7_ n8_ n9_ n10_ n11_ hb hbox hg; have hnb21 := NB198_199.out; have hnc21 := NB199_198.out; have hcz22_0 : w20.cell? ⟨gb198, 0, none⟩ = some (.int .i64 0) := (kC BK198.out 0).trans rfl; have hcz22_1 : w20.cell? ⟨gb198, 1, none⟩ = some (.slice none 0 0) := (kC BK198.out 1).trans rfl; have hcz22_2 : w20.cell? ⟨gb198, 2, none⟩ = some (.slice none 0 0) := (kC BK198.out 2).trans rfl; have hcz22_3 : w20.cell? ⟨gb198, 3, none⟩ = some (.slice none 0 0) := (kC BK198.out 3).trans rfl; have hfz22_0 := kF BK198.out 0; have hfz22_1 := kF BK198.out 1; have hfz22_2 := kF BK198.out 2; have hfz22_3 := kF BK198.out 3; obtain ⟨Ao23, co23, eo23⟩ := Kd.R_slice HO185.out; subst eo23; obtain ⟨Ao24, co24, eo24⟩ := Kd.R_slice HO188.out; subst eo24; obtain ⟨Ao25, co25, eo25⟩ := Kd.R_slice HO191.out; subst eo25; have hcz26_0 : w20.cell? ⟨gb199, 0, none⟩ = some (.int .i64 0) := (kC BK199.out 0).trans rfl; have hcz26_1 : w20.cell? ⟨gb199, 1, none⟩ = some (.slice none 0 0) := (kC BK199.out 1).trans rfl; have hcz26_2 : w20.cell? ⟨gb199, 2, none⟩ = some (.slice none 0 0) := (kC BK199.out 2).trans rfl; have hcz26_3 : w20.cell? ⟨gb199, 3, none⟩ = some (.slice none 0 0) := (kC BK199.out 3).trans rfl; have hfz26_0 := kF BK199.out 0; have hfz26_1 := kF BK199.out 1; have hfz26_2 := kF BK199.out 2; have hfz26_3 := kF BK199.out 3) | ((with_reducible refine gate_dst (N := 12) rfl ?_); (try (refine gate_guard (by rfl) ?_; dsimp only)); refine Kd.R_lit k40 _ 40 ?hg (N := 12) ?hd (xs := ([(⟨0, 0⟩ : S40), (⟨2, 0⟩ : S40)] : List (S40))) (inner := [.int .i64 0, .int .i64 0, .int .i64 2, .int .i64 0]) (ok := fun _ => True) (okp := fun _ => True) ?hr ?hp (fun _ hk => hk) trivial (Below.refl _ _) (Nat.le_refl _) (by simp) ?_; (case hd => rfl); (case hg => rfl); (case hr => first | (go_simp; done) | (go_simp; rfl)); (case hp => exact (Reps.c2 (show Kd.M k40 _ _ _ (⟨0, 0⟩ : S40) [.int .i64 0, .int .i64 0] from (k40_mkM _ _ _ (⟨0, 0⟩ : S40) )) (Reps.c2 (show Kd.M k40 _ _ _ (⟨2, 0⟩ : S40) [.int .i64 2, .int .i64 0] from (k40_mkM _ _ _ (⟨2, 0⟩ : S40) )) (Reps.none _ _)))); intro v201 w27 ho28 hb hg_ hnew_; clear hg_ hnew_; (first | rw [← Ny200.out] at ho28 | (simp only [Int.reduceToNat] at ho28; rw [← Ny200.out] at ho28)); have n0_ := aM (rB (by (with_reducible repeat (first | apply rA | apply rN | apply rD)); exact (rM (rM (Kd.R_far (p := ⟨gb199, 3, none⟩) (Kd.R_far (p := ⟨gb199, 2, none⟩) (Kd.R_far (p := ⟨gb199, 1, none⟩) (Kd.R_far (p := ⟨gb199, 0, none⟩) (Kd.R_far (p := ⟨gb198, 3, none⟩) (Kd.R_far (p := ⟨gb198, 2, none⟩) (Kd.R_far (p := ⟨gb198, 1, none⟩) (Kd.R_far (p := ⟨gb198, 0, none⟩) (Kd.R_types (Kd.R_types HO185.out BK198.out (by decide)) BK199.out (by decide)) (fun _ hk => hk.1.2) (.int .i64 t182)) (fun _ hk => hk.1.2) (.slice Ao23 t183.length co23)) (fun _ hk => hk.1.2) (.slice Ao24 t186.length co24)) (fun _ hk => hk.1.2) (.slice Ao25 t189.length co25)) (fun _ hk => hk.2) (.int .i64 2)) (fun _ hk => hk.2) (.slice Ao18 y192.length co18)) (fun _ hk => hk.2) (.slice Ao17 y195.length co17)) (fun _ hk => hk.2) (.slice none 0 0)) (fun _ h_ => h_.1)) (fun _ h_ => h_.1))) hb); have n1_ := aM (rB (by (with_reducible repeat (first | apply rA | apply rN | apply rD)); exact (rM (rM (Kd.R_far (p := ⟨gb199, 3, none⟩) (Kd.R_far (p := ⟨gb199, 2, none⟩) (Kd.R_far (p := ⟨gb199, 1, none⟩) (Kd.R_far (p := ⟨gb199, 0, none⟩) (Kd.R_far (p := ⟨gb198, 3, none⟩) (Kd.R_far (p := ⟨gb198, 2, none⟩) (Kd.R_far (p := ⟨gb198, 1, none⟩) (Kd.R_far (p := ⟨gb198, 0, none⟩) (Kd.R_types (Kd.R_types HO188.out BK198.out (by decide)) BK199.out (by decide)) (fun _ hk => hk.1.2) (.int .i64 t182)) (fun _ hk => hk.1.2) (.slice Ao23 t183.length co23)) (fun _ hk => hk.1.2) (.slice Ao24 t186.length co24)) (fun _ hk => hk.1.2) (.slice Ao25 t189.length co25)) (fun _ hk => hk.2) (.int .i64 2)) (fun _ hk => hk.2) (.slice Ao18 y192.length co18)) (fun _ hk => hk.2) (.slice Ao17 y195.length co17)) (fun _ hk => hk.2) (.slice none 0 0)) (fun _ h_ => h_.1)) (fun _ h_ => h_.1))) hb); have n2_ := aM (rB (by (with_reducible repeat (first | apply rA | apply rN | apply rD)); exact (rM (rM (Kd.R_far (p := ⟨gb199, 3, none⟩) (Kd.R_far (p := ⟨gb199, 2, none⟩) (Kd.R_far (p := ⟨gb199, 1, none⟩) (Kd.R_far (p := ⟨gb199, 0, none⟩) (Kd.R_far (p := ⟨gb198, 3, none⟩) (Kd.R_far (p := ⟨gb198, 2, none⟩) (Kd.R_far (p := ⟨gb198, 1, none⟩) (Kd.R_far (p := ⟨gb198, 0, none⟩) (Kd.R_types (Kd.R_types HO191.out BK198.out (by decide)) BK199.out (by decide)) (fun _ hk => hk.1.2) (.int .i64 t182)) (fun _ hk => hk.1.2) (.slice Ao23 t183.length co23)) (fun _ hk => hk.1.2) (.slice Ao24 t186.length co24)) (fun _ hk => hk.1.2) (.slice Ao25 t189.length co25)) (fun _ hk => hk.2) (.int .i64 2)) (fun _ hk => hk.2) (.slice Ao18 y192.length co18)) (fun _ hk => hk.2) (.slice Ao17 y195.length co17)) (fun _ hk => hk.2) (.slice none 0 0)) (fun _ h_ => h_.1)) (fun _ h_ => h_.1))) hb); have n3_ := aM (rB (by (with_reducible repeat (first | apply rA | apply rN | apply rD)); exact (rM (rM (Kd.R_far (p := ⟨gb199, 3, none⟩) (Kd.R_far (p := ⟨gb199, 2, none⟩) (Kd.R_far (p := ⟨gb199, 1, none⟩) (Kd.R_far (p := ⟨gb199, 0, none⟩) (Kd.R_far (p := ⟨gb198, 3, none⟩) (Kd.R_far (p := ⟨gb198, 2, none⟩) (Kd.R_far (p := ⟨gb198, 1, none⟩) (Kd.R_far (p := ⟨gb198, 0, none⟩) (Kd.R_types (Kd.R_types HO194.out BK198.out (by decide)) BK199.out (by decide)) (fun _ hk => hk.1.2) (.int .i64 t182)) (fun _ hk => hk.1.2) (.slice Ao23 t183.length co23)) (fun _ hk => hk.1.2) (.slice Ao24 t186.length co24)) (fun _ hk => hk.1.2) (.slice Ao25 t189.length co25)) (fun _ hk => hk.2) (.int .i64 2)) (fun _ hk => hk.2) (.slice Ao18 y192.length co18)) (fun _ hk => hk.2) (.slice Ao17 y195.length co17)) (fun _ hk => hk.2) (.slice none 0 0)) (fun _ h_ => h_.1)) (fun _ h_ => h_.1))) hb); have n4_ := aM (rB (by (with_reducible repeat (first | apply rA | apply rN | apply rD)); exact (rM (rM (Kd.R_far (p := ⟨gb199, 3, none⟩) (Kd.R_far (p := ⟨gb199, 2, none⟩) (Kd.R_far (p := ⟨gb199, 1, none⟩) (Kd.R_far (p := ⟨gb199, 0, none⟩) (Kd.R_far (p := ⟨gb198, 3, none⟩) (Kd.R_far (p := ⟨gb198, 2, none⟩) (Kd.R_far (p := ⟨gb198, 1, none⟩) (Kd.R_far (p := ⟨gb198, 0, none⟩) (Kd.R_types (Kd.R_types HO197.out BK198.out (by decide)) BK199.out (by decide)) (fun _ hk => hk.1.2) (.int .i64 t182)) (fun _ hk => hk.1.2) (.slice Ao23 t183.length co23)) (fun _ hk => hk.1.2) (.slice Ao24 t186.length co24)) (fun _ hk => hk.1.2) (.slice Ao25 t189.length co25)) (fun _ hk => hk.2) (.int .i64 2)) (fun _ hk => hk.2) (.slice Ao18 y192.length co18)) (fun _ hk => hk.2) (.slice Ao17 y195.length co17)) (fun _ hk => hk.2) (.slice none 0 0)) (fun _ h_ => h_.1)) (fun _ h_ => h_.1))) hb); have n5_ := aM (Kd.R_lower ho28 (below_size (bl))); have n6_ := aM (kB (g := gb198) (o := .cells #[.int .i64 t182, .slice Ao23 t183.length co23, .slice Ao24 t186.length co24, .slice Ao25 t189.length co25] 31 (0, 0)) (by (with_reducible repeat (first | refine kN ?_ _ | refine kD ?_ | refine kA ?_ _)); refine blk_far ?_ NB198_199.out _; (with_reducible repeat (first | refine kN ?_ _ | refine kD ?_ | refine kA ?_ _)); refine blk_far ?_ NB198_199.out _; (with_reducible repeat (first | refine kN ?_ _ | refine kD ?_ | refine kA ?_ _)); refine blk_far ?_ NB198_199.out _; (with_reducible repeat (first | refine kN ?_ _ | refine kD ?_ | refine kA ?_ _)); refine blk_far ?_ NB198_199.out _; (with_reducible repeat (first | refine kN ?_ _ | refine kD ?_ | refine kA ?_ _)); refine kP (cs := #[.int .i64 t182, .slice Ao23 t183.length co23, .slice Ao24 t186.length co24, .slice none 0 0]) ?_ 3 _ rfl; (with_reducible repeat (first | refine kN ?_ _ | refine kD ?_ | refine kA ?_ _)); refine kP (cs := #[.int .i64 t182, .slice Ao23 t183.length co23, .slice none 0 0, .slice none 0 0]) ?_ 2 _ rfl; (with_reducible repeat (first | refine kN ?_ _ | refine kD ?_ | refine kA ?_ _)); refine kP (cs := #[.int .i64 t182, .slice none 0 0, .slice none 0 0, .slice none 0 0]) ?_ 1 _ rfl; (with_reducible repeat (first | refine kN ?_ _ | refine kD ?_ | refine kA ?_ _)); refine kP (cs := #[.int .i64 0, .slice none 0 0, .slice none 0 0, .slice none 0 0]) ?_ 0 _ rfl; (with_reducible repeat (first | refine kN ?_ _ | refine kD ?_ | refine kA ?_ _)); exact BK198.out) hb); have n7_ := aM (kB (g := gb199) (o := .cells #[.int .i64 2, .slice Ao18 y192.length co18, .slice Ao17 y195.length co17, .slice none 0 0] 31 (0, 0)) (by (with_reducible repeat (first | refine kN ?_ _ | refine kD ?_ | refine kA ?_ _)); refine kP (cs := #[.int .i64 2, .slice Ao18 y192.length co18, .slice Ao17 y195.length co17, .slice none 0 0]) ?_ 3 _ rfl; (with_reducible repeat (first | refine kN ?_ _ | refine kD ?_ | refine kA ?_ _)); refine kP (cs := #[.int .i64 2, .slice Ao18 y192.length co18, .slice none 0 0, .slice none 0 0]) ?_ 2 _ rfl; (with_reducible repeat (first | refine kN ?_ _ | refine kD ?_ | refine kA ?_ _)); refine kP (cs := #[.int .i64 2, .slice none 0 0, .slice none 0 0, .slice none 0 0]) ?_ 1 _ rfl; (with_reducible repeat (first | refine kN ?_ _ | refine kD ?_ | refine kA ?_ _)); refine kP (cs := #[.int .i64 0, .slice none 0 0, .slice none 0 0, .slice none 0 0]) ?_ 0 _ rfl; (with_reducible repeat (first | refine kN ?_ _ | refine kD ?_ | refine kA ?_ _)); refine blk_far ?_ NB199_198.out _; (with_reducible repeat (first | refine kN ?_ _ | refine kD ?_ | refine kA ?_ _)); refine blk_far ?_ NB199_198.out _; (with_reducible repeat (first | refine kN ?_ _ | refine kD ?_ | refine kA ?_ _)); refine blk_far ?_ NB199_198.out _; (with_reducible repeat (first | refine kN ?_ _ | refine kD ?_ | refine kA ?_ _)); refine blk_far ?_ NB199_198.out _; (with_reducible repeat (first | refine kN ?_ _ | refine kD ?_ | refine kA ?_ _)); exact BK199.out) hb); have n8_ := aM (bS (bl) hb); clear HO185 HO188 HO191 HO194 HO197 BK198 BK199 HB; have HO185 := n0_; have HO188 := n1_; have HO191 := n2_; have HO194 := n3_; have HO197 := n4_; have HO202 := n5_; have BK198 := n6_; have BK199 := n7_; have HB := n8_; clear n0_ n1_ n2_ n3_ n4_ n5_ n6_ n7_ n8_ hb ho28) | ((with_reducible refine gate_dst (N := 13) rfl ?_); (try (refine gate_guard (by rfl) ?_; dsimp only)); refine Kd.R_lit (Kd.int .i64) _ 3 ?hg (N := 13) ?hd (xs := ([4, 6] : List Int)) (inner := [.int .i64 4, .int .i64 6]) (ok := fun _ => True) (okp := fun _ => True) ?hr ?hp (fun _ hk => hk) trivial (Below.refl _ _) (Nat.le_refl _) (by simp) ?_; (case hd => rfl); (case hg => rfl); (case hr => first | (go_simp; done) | (go_simp; rfl)); (case hp => exact (Reps.one (show Kd.M (Kd.int .i64) _ _ _ 4 [.int .i64 4] from rfl) (Reps.one (show Kd.M (Kd.int .i64) _ _ _ 6 [.int .i64 6] from rfl) (Reps.none _ _)))); intro v204 w29 ho30 hb hg_ hnew_; clear hg_ hnew_; (first | rw [← Ny203.out] at ho30 | (simp only [Int.reduceToNat] at ho30; rw [← Ny203.out] at ho30)); have n0_ := aM (rB (rl HO185) hb); have n1_ := aM (rB (rl HO188) hb); have n2_ := aM (rB (rl HO191) hb); have n3_ := aM (rB (rl HO194) hb); have n4_ := aM (rB (rl HO197) hb); have n5_ := aM (rB (rl HO202) hb); have n6_ := aM (Kd.R_lower ho30 (below_size (bl))); have n7_ := aM (kB (g := gb198) (o := .cells #[.int .i64 t182, .slice Ao23 t183.length co23, .slice Ao24 t186.length co24, .slice Ao25 t189.length co25] 31 (0, 0)) (kl BK198) hb); have n8_ := aM (kB (g := gb199) (o := .cells #[.int .i64 2, .slice Ao18 y192.length co18, .slice Ao17 y195.length co17, .slice none 0 0] 31 (0, 0)) (kl BK199) hb); have n9_ := aM (bS (bl) hb); clear HO185 HO188 HO191 HO194 HO197 HO202 BK198 BK199 HB; have HO185 := n0_; have HO188 := n1_; have HO191 := n2_; have HO194 := n3_; have HO197 := n4_; have HO202 := n5_; have HO205 := n6_; have BK198 := n7_; have BK199 := n8_; have HB := n9_; clear n0_ n1_ n2_ n3_ n4_ n5_ n6_ n7_ n8_ n9_ hb ho30; obtain ⟨Ao31, co31, eo31⟩ := Kd.R_slice HO205.out; subst eo31; obtain ⟨Ao32, co32, eo32⟩ := Kd.R_slice HO202.out; subst eo32) | ((with_reducible refine gate_dst (N := 3) rfl ?_); (try (refine gate_guard (by rfl) ?_; dsimp only)); refine box_event ?hg (N := 3) ?hd (cs := #[.int .i64 0, .slice none 0 0, .slice none 0 0, .slice none 0 0]) (t := 31) ?hr ?_; (case hd => rfl); (case hg => rfl); (case hr => first | (go_simp; done) | (go_simp; rfl)); intro gb206 hg w33 hbox hb; have n0_ := aM (rB (rl HO185) hb); have n1_ := aM (rB (rl HO188) hb); have n2_ := aM (rB (rl HO191) hb); have n3_ := aM (rB (rl HO194) hb); have n4_ := aM (rB (rl HO197) hb); have n5_ := aM (rB (rl HO202) hb); have n6_ := aM (rB (rl HO205) hb); have n7_ := aM (kB (g := gb198) (o := .cells #[.int .i64 t182, .slice Ao23 t183.length co23, .slice Ao24 t186.length co24, .slice Ao25 t189.length co25] 31 (0, 0)) (kl BK198) hb); have n8_ := aM (kB (g := gb199) (o := .cells #[.int .i64 2, .slice Ao18 y192.length co18, .slice Ao17 y195.length co17, .slice none 0 0] 31 (0, 0)) (kl BK199) hb); have n9_ := aM (bS (bl) hb); have n10_ := aM (hbox); have n11_ := aM ((by rw [hg]; exact (below_size (bl)) : w.heap.size ≤ gb206)); have n12_ := aM ((by rw [hg]; exact (below_size (bl)) : w.heap.size ≤ gb206)); have n13_ := aM ((by rw [hg]; exact Nat.ne_of_lt (blk_lt (g := gb198) (o := .cells #[.int .i64 t182, .slice Ao23 t183.length co23, .slice Ao24 t186.length co24, .slice Ao25 t189.length co25] 31 (0, 0)) (kl BK198)) : gb198 ≠ gb206)); have n14_ := aM ((by rw [hg]; exact Nat.ne_of_gt (blk_lt (g := gb198) (o := .cells #[.int .i64 t182, .slice Ao23 t183.length co23, .slice Ao24 t186.length co24, .slice Ao25 t189.length co25] 31 (0, 0)) (kl BK198)) : gb206 ≠ gb198)); have n15_ := aM ((by rw [hg]; exact Nat.ne_of_lt (blk_lt (g := gb199) (o := .cells #[.int .i64 2, .slice Ao18 y192.length co18, .slice Ao17 y195.length co17, .slice none 0 0] 31 (0, 0)) (kl BK199)) : gb199 ≠ gb206)); have n16_ := aM ((by rw [hg]; exact Nat.ne_of_gt (blk_lt (g := gb199) (o := .cells #[.int .i64 2, .slice Ao18 y192.length co18, .slice Ao17 y195.length co17, .slice none 0 0] 31 (0, 0)) (kl BK199)) : gb206 ≠ gb199)); clear HO185 HO188 HO191 HO194 HO197 HO202 HO205 BK198 BK199 HB; have HO185 := n0_; have HO188 := n1_; have HO191 := n2_; have HO194 := n3_; have HO197 := n4_; have HO202 := n5_; have HO205 := n6_; have BK198 := n7_; have BK199 := n8_; have HB := n9_; have BK206 := n10_; have GW206 := n11_; have GE206 := n12_; have NB198_206 := n13_; have NB206_198 := n14_; have NB199_206 := n15_; have NB206_199 := n16_; clear n0_ n1_ n2_ n3_ n4_ n5_ n6_ n7_ n8_ n9_ n10_ n11_ n12_ n13_ n14_ n15_ n16_ hb hbox hg; have hnb34 := NB206_198.out; have hnc34 := NB198_206.out; have hnb35 := NB206_199.out; have hnc35 := NB199_206.out; have hcz36_0 : w33.cell? ⟨gb206, 0, none⟩ = some (.int .i64 0) := (kC BK206.out 0).trans rfl; have hcz36_1 : w33.cell? ⟨gb206, 1, none⟩ = some (.slice none 0 0) := (kC BK206.out 1).trans rfl; have hcz36_2 : w33.cell? ⟨gb206, 2, none⟩ = some (.slice none 0 0) := (kC BK206.out 2).trans rfl; have hcz36_3 : w33.cell? ⟨gb206, 3, none⟩ = some (.slice none 0 0) := (kC BK206.out 3).trans rfl; have hfz36_0 := kF BK206.out 0; have hfz36_1 := kF BK206.out 1; have hfz36_2 := kF BK206.out 2; have hfz36_3 := kF BK206.out 3))
    have n0_ : Aside0 (Kd.R k40 40 ((((w33.setCell ⟨gb206, 0, none⟩ (.int .i64 1)).setCell ⟨gb206, 1, none⟩ (.slice Ao32 y200.length co32)).setCell ⟨gb206, 2, none⟩ (.slice Ao31 y203.length co31)).setCell ⟨gb206, 3, none⟩ (.slice none 0 0)) w.heap.size (fun _ => True) (.slice Ao23 t183.length co23) t183) := ⟨by (with_reducible repeat (first | apply rA | apply rN | apply rD)); exact rM (Kd.R_far (p := ⟨gb206, 3, none⟩) (Kd.R_far (p := ⟨gb206, 2, none⟩) (Kd.R_far (p := ⟨gb206, 1, none⟩) (Kd.R_far (p := ⟨gb206, 0, none⟩) (Kd.R_types HO185.out BK206.out (by decide)) (fun _ hk => hk.2) (.int .i64 1)) (fun _ hk => hk.2) (.slice Ao32 y200.length co32)) (fun _ hk => hk.2) (.slice Ao31 y203.length co31)) (fun _ hk => hk.2) (.slice none 0 0)) (fun _ hk => trivial)⟩
    have n1_ : Aside0 (Kd.R (Kd.int .i64) 3 ((((w33.setCell ⟨gb206, 0, none⟩ (.int .i64 1)).setCell ⟨gb206, 1, none⟩ (.slice Ao32 y200.length co32)).setCell ⟨gb206, 2, none⟩ (.slice Ao31 y203.length co31)).setCell ⟨gb206, 3, none⟩ (.slice none 0 0)) w.heap.size (fun _ => True) (.slice Ao24 t186.length co24) t186) := ⟨by (with_reducible repeat (first | apply rA | apply rN | apply rD)); exact rM (Kd.R_far (p := ⟨gb206, 3, none⟩) (Kd.R_far (p := ⟨gb206, 2, none⟩) (Kd.R_far (p := ⟨gb206, 1, none⟩) (Kd.R_far (p := ⟨gb206, 0, none⟩) (Kd.R_types HO188.out BK206.out (by decide)) (fun _ hk => hk.2) (.int .i64 1)) (fun _ hk => hk.2) (.slice Ao32 y200.length co32)) (fun _ hk => hk.2) (.slice Ao31 y203.length co31)) (fun _ hk => hk.2) (.slice none 0 0)) (fun _ hk => trivial)⟩
    have n2_ : Aside0 (Kd.R k80 80 ((((w33.setCell ⟨gb206, 0, none⟩ (.int .i64 1)).setCell ⟨gb206, 1, none⟩ (.slice Ao32 y200.length co32)).setCell ⟨gb206, 2, none⟩ (.slice Ao31 y203.length co31)).setCell ⟨gb206, 3, none⟩ (.slice none 0 0)) w.heap.size (fun _ => True) (.slice Ao25 t189.length co25) t189) := ⟨by (with_reducible repeat (first | apply rA | apply rN | apply rD)); exact rM (Kd.R_far (p := ⟨gb206, 3, none⟩) (Kd.R_far (p := ⟨gb206, 2, none⟩) (Kd.R_far (p := ⟨gb206, 1, none⟩) (Kd.R_far (p := ⟨gb206, 0, none⟩) (Kd.R_types HO191.out BK206.out (by decide)) (fun _ hk => hk.2) (.int .i64 1)) (fun _ hk => hk.2) (.slice Ao32 y200.length co32)) (fun _ hk => hk.2) (.slice Ao31 y203.length co31)) (fun _ hk => hk.2) (.slice none 0 0)) (fun _ hk => trivial)⟩
    have n3_ : Aside0 (Kd.R k40 40 ((((w33.setCell ⟨gb206, 0, none⟩ (.int .i64 1)).setCell ⟨gb206, 1, none⟩ (.slice Ao32 y200.length co32)).setCell ⟨gb206, 2, none⟩ (.slice Ao31 y203.length co31)).setCell ⟨gb206, 3, none⟩ (.slice none 0 0)) w.heap.size (fun _ => True) (.slice Ao18 y192.length co18) y192) := ⟨by (with_reducible repeat (first | apply rA | apply rN | apply rD)); exact rM (Kd.R_far (p := ⟨gb206, 3, none⟩) (Kd.R_far (p := ⟨gb206, 2, none⟩) (Kd.R_far (p := ⟨gb206, 1, none⟩) (Kd.R_far (p := ⟨gb206, 0, none⟩) (Kd.R_types HO194.out BK206.out (by decide)) (fun _ hk => hk.2) (.int .i64 1)) (fun _ hk => hk.2) (.slice Ao32 y200.length co32)) (fun _ hk => hk.2) (.slice Ao31 y203.length co31)) (fun _ hk => hk.2) (.slice none 0 0)) (fun _ hk => trivial)⟩
    have n4_ : Aside0 (Kd.R (Kd.int .i64) 3 ((((w33.setCell ⟨gb206, 0, none⟩ (.int .i64 1)).setCell ⟨gb206, 1, none⟩ (.slice Ao32 y200.length co32)).setCell ⟨gb206, 2, none⟩ (.slice Ao31 y203.length co31)).setCell ⟨gb206, 3, none⟩ (.slice none 0 0)) w.heap.size (fun _ => True) (.slice Ao17 y195.length co17) y195) := ⟨by (with_reducible repeat (first | apply rA | apply rN | apply rD)); exact rM (Kd.R_far (p := ⟨gb206, 3, none⟩) (Kd.R_far (p := ⟨gb206, 2, none⟩) (Kd.R_far (p := ⟨gb206, 1, none⟩) (Kd.R_far (p := ⟨gb206, 0, none⟩) (Kd.R_types HO197.out BK206.out (by decide)) (fun _ hk => hk.2) (.int .i64 1)) (fun _ hk => hk.2) (.slice Ao32 y200.length co32)) (fun _ hk => hk.2) (.slice Ao31 y203.length co31)) (fun _ hk => hk.2) (.slice none 0 0)) (fun _ hk => trivial)⟩
    have n5_ : Aside0 (Kd.R k40 40 ((((w33.setCell ⟨gb206, 0, none⟩ (.int .i64 1)).setCell ⟨gb206, 1, none⟩ (.slice Ao32 y200.length co32)).setCell ⟨gb206, 2, none⟩ (.slice Ao31 y203.length co31)).setCell ⟨gb206, 3, none⟩ (.slice none 0 0)) w.heap.size (fun _ => True) (.slice Ao32 y200.length co32) y200) := ⟨by (with_reducible repeat (first | apply rA | apply rN | apply rD)); exact rM (Kd.R_far (p := ⟨gb206, 3, none⟩) (Kd.R_far (p := ⟨gb206, 2, none⟩) (Kd.R_far (p := ⟨gb206, 1, none⟩) (Kd.R_far (p := ⟨gb206, 0, none⟩) (Kd.R_types HO202.out BK206.out (by decide)) (fun _ hk => hk.2) (.int .i64 1)) (fun _ hk => hk.2) (.slice Ao32 y200.length co32)) (fun _ hk => hk.2) (.slice Ao31 y203.length co31)) (fun _ hk => hk.2) (.slice none 0 0)) (fun _ hk => trivial)⟩
    have n6_ : Aside0 (Kd.R (Kd.int .i64) 3 ((((w33.setCell ⟨gb206, 0, none⟩ (.int .i64 1)).setCell ⟨gb206, 1, none⟩ (.slice Ao32 y200.length co32)).setCell ⟨gb206, 2, none⟩ (.slice Ao31 y203.length co31)).setCell ⟨gb206, 3, none⟩ (.slice none 0 0)) w.heap.size (fun _ => True) (.slice Ao31 y203.length co31) y203) := ⟨by (with_reducible repeat (first | apply rA | apply rN | apply rD)); exact rM (Kd.R_far (p := ⟨gb206, 3, none⟩) (Kd.R_far (p := ⟨gb206, 2, none⟩) (Kd.R_far (p := ⟨gb206, 1, none⟩) (Kd.R_far (p := ⟨gb206, 0, none⟩) (Kd.R_types HO205.out BK206.out (by decide)) (fun _ hk => hk.2) (.int .i64 1)) (fun _ hk => hk.2) (.slice Ao32 y200.length co32)) (fun _ hk => hk.2) (.slice Ao31 y203.length co31)) (fun _ hk => hk.2) (.slice none 0 0)) (fun _ hk => trivial)⟩
    have n7_ : Aside0 (((((w33.setCell ⟨gb206, 0, none⟩ (.int .i64 1)).setCell ⟨gb206, 1, none⟩ (.slice Ao32 y200.length co32)).setCell ⟨gb206, 2, none⟩ (.slice Ao31 y203.length co31)).setCell ⟨gb206, 3, none⟩ (.slice none 0 0)).heap[gb198]? = some (.cells #[.int .i64 t182, .slice Ao23 t183.length co23, .slice Ao24 t186.length co24, .slice Ao25 t189.length co25] 31 (0, 0))) := ⟨by (with_reducible repeat (first | refine kN ?_ _ | refine kD ?_ | refine kA ?_ _)); refine blk_far ?_ NB198_206.out _; (with_reducible repeat (first | refine kN ?_ _ | refine kD ?_ | refine kA ?_ _)); refine blk_far ?_ NB198_206.out _; (with_reducible repeat (first | refine kN ?_ _ | refine kD ?_ | refine kA ?_ _)); refine blk_far ?_ NB198_206.out _; (with_reducible repeat (first | refine kN ?_ _ | refine kD ?_ | refine kA ?_ _)); refine blk_far ?_ NB198_206.out _; (with_reducible repeat (first | refine kN ?_ _ | refine kD ?_ | refine kA ?_ _)); exact BK198.out⟩
    have n8_ : Aside0 (((((w33.setCell ⟨gb206, 0, none⟩ (.int .i64 1)).setCell ⟨gb206, 1, none⟩ (.slice Ao32 y200.length co32)).setCell ⟨gb206, 2, none⟩ (.slice Ao31 y203.length co31)).setCell ⟨gb206, 3, none⟩ (.slice none 0 0)).heap[gb199]? = some (.cells #[.int .i64 2, .slice Ao18 y192.length co18, .slice Ao17 y195.length co17, .slice none 0 0] 31 (0, 0))) := ⟨by (with_reducible repeat (first | refine kN ?_ _ | refine kD ?_ | refine kA ?_ _)); refine blk_far ?_ NB199_206.out _; (with_reducible repeat (first | refine kN ?_ _ | refine kD ?_ | refine kA ?_ _)); refine blk_far ?_ NB199_206.out _; (with_reducible repeat (first | refine kN ?_ _ | refine kD ?_ | refine kA ?_ _)); refine blk_far ?_ NB199_206.out _; (with_reducible repeat (first | refine kN ?_ _ | refine kD ?_ | refine kA ?_ _)); refine blk_far ?_ NB199_206.out _; (with_reducible repeat (first | refine kN ?_ _ | refine kD ?_ | refine kA ?_ _)); exact BK199.out⟩
    have n9_ : Aside0 (((((w33.setCell ⟨gb206, 0, none⟩ (.int .i64 1)).setCell ⟨gb206, 1, none⟩ (.slice Ao32 y200.length co32)).setCell ⟨gb206, 2, none⟩ (.slice Ao31 y203.length co31)).setCell ⟨gb206, 3, none⟩ (.slice none 0 0)).heap[gb206]? = some (.cells #[.int .i64 1, .slice Ao32 y200.length co32, .slice Ao31 y203.length co31, .slice none 0 0] 31 (0, 0))) := ⟨by (with_reducible repeat (first | refine kN ?_ _ | refine kD ?_ | refine kA ?_ _)); refine kP (cs := #[.int .i64 1, .slice Ao32 y200.length co32, .slice Ao31 y203.length co31, .slice none 0 0]) ?_ 3 _ rfl; (with_reducible repeat (first | refine kN ?_ _ | refine kD ?_ | refine kA ?_ _)); refine kP (cs := #[.int .i64 1, .slice Ao32 y200.length co32, .slice none 0 0, .slice none 0 0]) ?_ 2 _ rfl; (with_reducible repeat (first | refine kN ?_ _ | refine kD ?_ | refine kA ?_ _)); refine kP (cs := #[.int .i64 1, .slice none 0 0, .slice none 0 0, .slice none 0 0]) ?_ 1 _ rfl; (with_reducible repeat (first | refine kN ?_ _ | refine kD ?_ | refine kA ?_ _)); refine kP (cs := #[.int .i64 0, .slice none 0 0, .slice none 0 0, .slice none 0 0]) ?_ 0 _ rfl; (with_reducible repeat (first | refine kN ?_ _ | refine kD ?_ | refine kA ?_ _)); exact BK206.out⟩
    have n10_ : Aside0 (Below w.heap.size w ((((w33.setCell ⟨gb206, 0, none⟩ (.int .i64 1)).setCell ⟨gb206, 1, none⟩ (.slice Ao32 y200.length co32)).setCell ⟨gb206, 2, none⟩ (.slice Ao31 y203.length co31)).setCell ⟨gb206, 3, none⟩ (.slice none 0 0))) := ⟨bl⟩
    (try clear HO185)
    (try clear HO188)
    (try clear HO191)
    (try clear HO194)
    (try clear HO197)
    (try clear HO202)
    (try clear HO205)
    (try clear BK198)
    (try clear BK199)
    (try clear BK206)
    (try clear HB)
    generalize ((((w33.setCell ⟨gb206, 0, none⟩ (.int .i64 1)).setCell ⟨gb206, 1, none⟩ (.slice Ao32 y200.length co32)).setCell ⟨gb206, 2, none⟩ (.slice Ao31 y203.length co31)).setCell ⟨gb206, 3, none⟩ (.slice none 0 0)) = w37 at n0_ n1_ n2_ n3_ n4_ n5_ n6_ n7_ n8_ n9_ n10_ ⊢
    have HO185 := n0_
    have HO188 := n1_
    have HO191 := n2_
    have HO194 := n3_
    have HO197 := n4_
    have HO202 := n5_
    have HO205 := n6_
    have BK198 := n7_
    have BK199 := n8_
    have BK206 := n9_
    have HB := n10_
    clear n0_ n1_ n2_ n3_ n4_ n5_ n6_ n7_ n8_ n9_ n10_
    replace HO185 := aM (rD HO185.out)
    replace HO188 := aM (rD HO188.out)
    replace HO191 := aM (rD HO191.out)
    replace HO194 := aM (rD HO194.out)
    replace HO197 := aM (rD HO197.out)
    replace HO202 := aM (rD HO202.out)
    replace HO205 := aM (rD HO205.out)
    replace BK198 := aM (kD BK198.out)
    replace BK199 := aM (kD BK199.out)
    replace BK206 := aM (kD BK206.out)
    replace HB := aM (bD HB.out)
    refine start_ (n := 33) (S := fun w' => True) (ds := []) #[false, false, false, false, false, false, false, false, false, false, false, false, false, false, false, false, false, false, false, false, false, false, false, false, false, false, false, false, false, false, false, false, false] (by kernel_rfl) rfl rfl trivial (fun hHeld => ?_); refine with_tabW mapmakerlaw26_livesG.tab3 mapmakerlaw26_livesG.bits3 (fun HT_ HW_ => ?_)
    generalize w37.drew = w38 at HO185 HO188 HO191 HO194 HO197 HO202 HO205 BK198 BK199 BK206 HB hHeld ⊢
    refine inv_at [0, 1, 2, 3, 4, 5, 6, 7, 8, 9, 10, 11, 12, 13, 14, 15, 16, 17, 18, 19, 20, 21, 22, 23, 24, 25, 26, 27, 28, 29, 30, 31, 32] (fun a0_ b a w' => ∃ (v208 : Value) (v211 : Value) (v214 : Value) (v218 : Value) (v221 : Value) (v224 : Value) (v228 : Value) (v232 : Value) (v235 : Value) (v238 : Value) (v242 : Value) (v245 : Value) (m20_ : Value), a = putSel a0_ b [(0, 15, .agg #[.int .i64 t182, .slice Ao23 t183.length co23, .slice Ao24 t186.length co24, .slice Ao25 t189.length co25]), (1, 16, v208), (2, 17, v211), (3, 18, .agg #[.int .i64 1, .slice Ao32 y200.length co32, .slice Ao31 y203.length co31, .slice none 0 0]), (4, 19, v214), (5, 20, .bool true), (6, 21, .bool true), (7, 22, .agg #[.int .i64 t182, .slice Ao23 t183.length co23, .slice Ao24 t186.length co24, .slice Ao25 t189.length co25]), (8, 23, .agg #[.int .i64 2, .slice Ao18 y192.length co18, .slice Ao17 y195.length co17, .slice none 0 0]), (9, 24, v218), (10, 25, v221), (11, 26, .agg #[.int .i64 t182, .slice Ao23 t183.length co23, .slice Ao24 t186.length co24, .slice Ao25 t189.length co25]), (12, 27, .agg #[.int .i64 2, .slice Ao18 y192.length co18, .slice Ao17 y195.length co17, .slice none 0 0]), (13, 28, v224), (14, 29, .bool true), (15, 30, .bool true), (16, 31, .bool true), (17, 32, .agg #[.int .i64 t182, .slice Ao23 t183.length co23, .slice Ao24 t186.length co24, .slice Ao25 t189.length co25]), (18, 33, .agg #[.int .i64 1, .int .i64 0]), (19, 34, v228), (20, 35, m20_), (21, 36, .agg #[.int .i64 t182, .slice Ao23 t183.length co23, .slice Ao24 t186.length co24, .slice Ao25 t189.length co25]), (22, 37, .bool true), (23, 38, .bool true), (24, 39, .bool true), (25, 40, .agg #[.int .i64 t182, .slice Ao23 t183.length co23, .slice Ao24 t186.length co24, .slice Ao25 t189.length co25]), (26, 41, .agg #[.int .i64 2, .slice Ao18 y192.length co18, .slice Ao17 y195.length co17, .slice none 0 0]), (27, 42, v242), (28, 43, v245), (29, 44, .int .i64 (t244.length : Int)), (30, 45, .bool ((t244.length : Int) == 4)), (31, 46, .bool ((t244.length : Int) == 4)), (32, 0, .bool ((t244.length : Int) == 4))] ∧ (Kd.R k40 40 w' w.heap.size (fun _ => True) (.slice Ao23 t183.length co23) t183) ∧ (Kd.R (Kd.int .i64) 3 w' w.heap.size (fun _ => True) (.slice Ao24 t186.length co24) t186) ∧ (Kd.R k80 80 w' w.heap.size (fun _ => True) (.slice Ao25 t189.length co25) t189) ∧ (Kd.R k40 40 w' w.heap.size (fun _ => True) (.slice Ao18 y192.length co18) y192) ∧ (Kd.R (Kd.int .i64) 3 w' w.heap.size (fun _ => True) (.slice Ao17 y195.length co17) y195) ∧ (Kd.R k40 40 w' w.heap.size (fun _ => True) (.slice Ao32 y200.length co32) y200) ∧ (Kd.R (Kd.int .i64) 3 w' w.heap.size (fun _ => True) (.slice Ao31 y203.length co31) y203) ∧ (w'.heap[gb198]? = some (.cells #[.int .i64 t182, .slice Ao23 t183.length co23, .slice Ao24 t186.length co24, .slice Ao25 t189.length co25] 31 (0, 0))) ∧ (w'.heap[gb199]? = some (.cells #[.int .i64 2, .slice Ao18 y192.length co18, .slice Ao17 y195.length co17, .slice none 0 0] 31 (0, 0))) ∧ (w'.heap[gb206]? = some (.cells #[.int .i64 1, .slice Ao32 y200.length co32, .slice Ao31 y203.length co31, .slice none 0 0] 31 (0, 0))) ∧ (Below w.heap.size w w') ∧ (b 1 = true → Kd.N k31 31 w' w.heap.size (fun _ => True) v208 y207) ∧ (b 2 = true → Kd.N k31 31 w' w.heap.size (fun _ => True) v211 t210) ∧ (b 4 = true → Kd.N k31 31 w' w.heap.size (fun _ => True) v214 y213) ∧ (b 9 = true → Kd.N k31 31 w' w.heap.size (fun _ => True) v218 y217) ∧ (b 10 = true → Kd.N k31 31 w' w.heap.size (fun _ => True) v221 t220) ∧ (b 13 = true → Kd.N k31 31 w' w.heap.size (fun _ => True) v224 y223) ∧ (b 19 = true → Kd.R k40 40 w' w.heap.size (fun _ => True) v228 y227) ∧ (b 20 = true → Kd.V k40 40 w' w.heap.size (fun _ => True) v232 t231) ∧ (b 20 = true → Kd.V (Kd.int .i64) 3 w' w.heap.size (fun _ => True) v235 t234) ∧ (b 20 = true → Kd.V k80 80 w' w.heap.size (fun _ => True) v238 t237) ∧ (b 27 = true → Kd.N k31 31 w' w.heap.size (fun _ => True) v242 y241) ∧ (b 28 = true → Kd.R k40 40 w' w.heap.size (fun _ => True) v245 t244) ∧ (b 20 = true → (m20_ : Value) = .agg #[.int .i64 t230, v232, v235, v238])) HT_.out HW_.out (by kernel_rfl) (by kernel_rfl) ?_ ?_ ?_
    ·exact ⟨.bool false, .bool false, .bool false, .bool false, .bool false, .bool false, .bool false, .bool false, .bool false, .bool false, .bool false, .bool false, .bool false, by simp only [putSel, Bool.false_eq_true, if_false], HO185.out, HO188.out, HO191.out, HO194.out, HO197.out, HO202.out, HO205.out, BK198.out, BK199.out, BK206.out, HB.out, fun h_ => absurd h_ (by decide), fun h_ => absurd h_ (by decide), fun h_ => absurd h_ (by decide), fun h_ => absurd h_ (by decide), fun h_ => absurd h_ (by decide), fun h_ => absurd h_ (by decide), fun h_ => absurd h_ (by decide), fun h_ => absurd h_ (by decide), fun h_ => absurd h_ (by decide), fun h_ => absurd h_ (by decide), fun h_ => absurd h_ (by decide), fun h_ => absurd h_ (by decide), fun h_ => absurd h_ (by decide)⟩
    ·skip
     clear BK198 BK199 BK206 HB HO185 HO188 HO191 HO194 HO197 HO202 HO205
     refine steps_cons ?_ ?_
     ·rintro b a w' ⟨v208, v211, v214, v218, v221, v224, v228, v232, v235, v238, v242, v245, m20_, ha, Q_HO185, Q_HO188, Q_HO191, Q_HO194, Q_HO197, Q_HO202, Q_HO205, Q_BK198, Q_BK199, Q_BK206, Q_HB, Q_HO209, Q_HO212, Q_HO215, Q_HO219, Q_HO222, Q_HO225, Q_HO229, Q_HO233, Q_HO236, Q_HO239, Q_HO243, Q_HO246, Q_X20_⟩ hb_ hon hoff
      refine ⟨_, rfl, fun K hK => ?_⟩
      have e1 : a.tmps[1]? = some (.pointer (some ⟨gb198, 0, none⟩)) := by rw [ha]; exact (putSel_off rfl).trans rfl
      replace ha := aM ha
      have HO185 := aM Q_HO185
      have HO188 := aM Q_HO188
      have HO191 := aM Q_HO191
      have HO194 := aM Q_HO194
      have HO197 := aM Q_HO197
      have HO202 := aM Q_HO202
      have HO205 := aM Q_HO205
      have BK198 := aM Q_BK198
      have BK199 := aM Q_BK199
      have BK206 := aM Q_BK206
      have HB := aM Q_HB
      have hc0_ : w'.cell? ⟨gb198, 0, none⟩ = some (.int .i64 t182) := (kC BK198.out 0).trans rfl
      have hc1_ : w'.cell? ⟨gb198, 1, none⟩ = some (.slice Ao23 t183.length co23) := (kC BK198.out 1).trans rfl
      have hc2_ : w'.cell? ⟨gb198, 2, none⟩ = some (.slice Ao24 t186.length co24) := (kC BK198.out 2).trans rfl
      have hc3_ : w'.cell? ⟨gb198, 3, none⟩ = some (.slice Ao25 t189.length co25) := (kC BK198.out 3).trans rfl
      refine value_ (w1 := w') (v := .agg #[.int .i64 t182, .slice Ao23 t183.length co23, .slice Ao24 t186.length co24, .slice Ao25 t189.length co25]) (by rfl) rfl ?_ ?_
      ·go_simp
       (try simp only [i64_w])
       try rfl
      refine hK.out _ _ ⟨v208, v211, v214, v218, v221, v224, v228, v232, v235, v238, v242, v245, m20_, (by rw [ha.out]; exact putSel_upk 0 hb_ rfl rfl rfl), Q_HO185, Q_HO188, Q_HO191, Q_HO194, Q_HO197, Q_HO202, Q_HO205, Q_BK198, Q_BK199, Q_BK206, Q_HB, fun h0_ => absurd ((hoff 1 (by kernel_rfl)).symm.trans h0_) (by decide), fun h0_ => absurd ((hoff 2 (by kernel_rfl)).symm.trans h0_) (by decide), Q_HO215, fun h0_ => absurd ((hoff 9 (by kernel_rfl)).symm.trans h0_) (by decide), fun h0_ => absurd ((hoff 10 (by kernel_rfl)).symm.trans h0_) (by decide), fun h0_ => absurd ((hoff 13 (by kernel_rfl)).symm.trans h0_) (by decide), fun h0_ => absurd ((hoff 19 (by kernel_rfl)).symm.trans h0_) (by decide), fun h0_ => absurd ((hoff 20 (by kernel_rfl)).symm.trans h0_) (by decide), fun h0_ => absurd ((hoff 20 (by kernel_rfl)).symm.trans h0_) (by decide), fun h0_ => absurd ((hoff 20 (by kernel_rfl)).symm.trans h0_) (by decide), fun h0_ => absurd ((hoff 27 (by kernel_rfl)).symm.trans h0_) (by decide), fun h0_ => absurd ((hoff 28 (by kernel_rfl)).symm.trans h0_) (by decide), fun h0_ => absurd ((hoff 20 (by kernel_rfl)).symm.trans h0_) (by decide)⟩
     refine steps_cons ?_ ?_
     ·rintro b a w' ⟨v208, v211, v214, v218, v221, v224, v228, v232, v235, v238, v242, v245, m20_, ha, Q_HO185, Q_HO188, Q_HO191, Q_HO194, Q_HO197, Q_HO202, Q_HO205, Q_BK198, Q_BK199, Q_BK206, Q_HB, Q_HO209, Q_HO212, Q_HO215, Q_HO219, Q_HO222, Q_HO225, Q_HO229, Q_HO233, Q_HO236, Q_HO239, Q_HO243, Q_HO246, Q_X20_⟩ hb_ hon hoff
      refine ⟨_, rfl, fun K hK => ?_⟩
      have e15 : a.tmps[15]? = some (.agg #[.int .i64 t182, .slice Ao23 t183.length co23, .slice Ao24 t186.length co24, .slice Ao25 t189.length co25]) := by rw [ha]; exact putSel_on (e := (0, 15, .agg #[.int .i64 t182, .slice Ao23 t183.length co23, .slice Ao24 t186.length co24, .slice Ao25 t189.length co25])) 0 rfl rfl (hon 0 (by kernel_rfl)) rfl
      replace ha := aM ha
      have HO185 := aM Q_HO185
      have HO188 := aM Q_HO188
      have HO191 := aM Q_HO191
      have HO194 := aM Q_HO194
      have HO197 := aM Q_HO197
      have HO202 := aM Q_HO202
      have HO205 := aM Q_HO205
      have BK198 := aM Q_BK198
      have BK199 := aM Q_BK199
      have BK206 := aM Q_BK206
      have HB := aM Q_HB
      refine Kd.N_lit_step k31 _ 31 ?hg (N' := 16) ?hd (xs := ([(⟨t182, t183, t186, t189⟩ : S31)] : List (S31))) (inner := [.int .i64 t182, .slice Ao23 t183.length co23, .slice Ao24 t186.length co24, .slice Ao25 t189.length co25]) (ok := (fun _ => True)) (okp := (fun _ => True)) ?hr ?hp (fun _ hk => hk) ((show ∀ k_, w'.heap.size ≤ k_ → (fun _ => True) k_ from fun k_ hk => trivial) _ (Nat.le_refl _)) (Below.refl _ _) (Nat.le_refl _) (by simp) ?_; (case hd => rfl); (case hg => rfl); (case hr => first | (go_simp; done) | (go_simp; rfl)); (case hp => exact (Reps.c4 (show Kd.FK k31 _ _ (⟨t182, t183, t186, t189⟩ : S31) [.int .i64 t182, .slice Ao23 t183.length co23, .slice Ao24 t186.length co24, .slice Ao25 t189.length co25] from (k31_mkF _ _ (⟨t182, t183, t186, t189⟩ : S31) (rR (rM (ok' := (fun _ => True)) (HO185.out) (fun k_ hk => trivial))).2.1 (Kd.R_F (rM (ok' := (fun _ => True)) (HO185.out) (fun k_ hk => trivial))) (rR (rM (ok' := (fun _ => True)) (HO188.out) (fun k_ hk => trivial))).2.1 (Kd.R_F (rM (ok' := (fun _ => True)) (HO188.out) (fun k_ hk => trivial))) (rR (rM (ok' := (fun _ => True)) (HO191.out) (fun k_ hk => trivial))).2.1 (Kd.R_F (rM (ok' := (fun _ => True)) (HO191.out) (fun k_ hk => trivial))))) (Reps.none _ _)))
      intro v208 w39 ho40 hb hg_ hnew_
      clear hg_ hnew_
      (first | rw [← Ny207.out] at ho40 | (simp only [Int.reduceToNat] at ho40; rw [← Ny207.out] at ho40))
      have n0_ := aM (rB (rl HO185) hb)
      have n1_ := aM (rB (rl HO188) hb)
      have n2_ := aM (rB (rl HO191) hb)
      have n3_ := aM (rB (rl HO194) hb)
      have n4_ := aM (rB (rl HO197) hb)
      have n5_ := aM (rB (rl HO202) hb)
      have n6_ := aM (rB (rl HO205) hb)
      have n7_ := aM (Kd.N_lower ho40 (below_size (bl)))
      have n8_ := aM (kB (g := gb198) (o := .cells #[.int .i64 t182, .slice Ao23 t183.length co23, .slice Ao24 t186.length co24, .slice Ao25 t189.length co25] 31 (0, 0)) (kl BK198) hb)
      have n9_ := aM (kB (g := gb199) (o := .cells #[.int .i64 2, .slice Ao18 y192.length co18, .slice Ao17 y195.length co17, .slice none 0 0] 31 (0, 0)) (kl BK199) hb)
      have n10_ := aM (kB (g := gb206) (o := .cells #[.int .i64 1, .slice Ao32 y200.length co32, .slice Ao31 y203.length co31, .slice none 0 0] 31 (0, 0)) (kl BK206) hb)
      have n11_ := aM (bS (bl) hb)
      have z_HO215 := fun (h0_ : b 4 = true) => (show Kd.N k31 31 w39 w.heap.size (fun _ => True) v214 y213 from by first | exact (Kd.N_below (by (with_reducible repeat (first | apply Kd.N_alloc | apply Kd.N_drewN | apply Kd.N_drew)); exact (Q_HO215 h0_)) hb) | exact Kd.N_mono (Kd.N_below (by (with_reducible repeat (first | apply Kd.N_alloc | apply Kd.N_drewN | apply Kd.N_drew)); exact (Q_HO215 h0_)) hb) (fun _ h_ => by first | trivial | exact h_ | exact h_.1))
      clear HO185 HO188 HO191 HO194 HO197 HO202 HO205 BK198 BK199 BK206 HB
      have HO185 := n0_
      have HO188 := n1_
      have HO191 := n2_
      have HO194 := n3_
      have HO197 := n4_
      have HO202 := n5_
      have HO205 := n6_
      have HO209 := n7_
      have BK198 := n8_
      have BK199 := n9_
      have BK206 := n10_
      have HB := n11_
      clear n0_ n1_ n2_ n3_ n4_ n5_ n6_ n7_ n8_ n9_ n10_ n11_ hb ho40
      refine hK.out _ _ ⟨v208, v211, v214, v218, v221, v224, v228, v232, v235, v238, v242, v245, m20_, (by rw [ha.out]; exact putSel_upk 1 hb_ rfl rfl rfl), (rl HO185), (rl HO188), (rl HO191), (rl HO194), (rl HO197), (rl HO202), (rl HO205), (kl BK198), (kl BK199), (kl BK206), (bl), fun _ => (by (with_reducible repeat (first | apply Kd.N_alloc | apply Kd.N_drewN | apply Kd.N_drew)); exact HO209.out), fun h0_ => absurd ((hoff 2 (by kernel_rfl)).symm.trans h0_) (by decide), z_HO215, fun h0_ => absurd ((hoff 9 (by kernel_rfl)).symm.trans h0_) (by decide), fun h0_ => absurd ((hoff 10 (by kernel_rfl)).symm.trans h0_) (by decide), fun h0_ => absurd ((hoff 13 (by kernel_rfl)).symm.trans h0_) (by decide), fun h0_ => absurd ((hoff 19 (by kernel_rfl)).symm.trans h0_) (by decide), fun h0_ => absurd ((hoff 20 (by kernel_rfl)).symm.trans h0_) (by decide), fun h0_ => absurd ((hoff 20 (by kernel_rfl)).symm.trans h0_) (by decide), fun h0_ => absurd ((hoff 20 (by kernel_rfl)).symm.trans h0_) (by decide), fun h0_ => absurd ((hoff 27 (by kernel_rfl)).symm.trans h0_) (by decide), fun h0_ => absurd ((hoff 28 (by kernel_rfl)).symm.trans h0_) (by decide), fun h0_ => absurd ((hoff 20 (by kernel_rfl)).symm.trans h0_) (by decide)⟩
     refine steps_cons ?_ ?_
     ·rintro b a w' ⟨v208, v211, v214, v218, v221, v224, v228, v232, v235, v238, v242, v245, m20_, ha, Q_HO185, Q_HO188, Q_HO191, Q_HO194, Q_HO197, Q_HO202, Q_HO205, Q_BK198, Q_BK199, Q_BK206, Q_HB, Q_HO209, Q_HO212, Q_HO215, Q_HO219, Q_HO222, Q_HO225, Q_HO229, Q_HO233, Q_HO236, Q_HO239, Q_HO243, Q_HO246, Q_X20_⟩ hb_ hon hoff
      refine ⟨_, rfl, fun K hK => ?_⟩
      have e16 : a.tmps[16]? = some (v208) := by rw [ha]; exact putSel_on (e := (1, 16, v208)) 1 rfl rfl (hon 1 (by kernel_rfl)) rfl
      replace ha := aM ha
      have HO185 := aM Q_HO185
      have HO188 := aM Q_HO188
      have HO191 := aM Q_HO191
      have HO194 := aM Q_HO194
      have HO197 := aM Q_HO197
      have HO202 := aM Q_HO202
      have HO205 := aM Q_HO205
      have BK198 := aM Q_BK198
      have BK199 := aM Q_BK199
      have BK206 := aM Q_BK206
      have HB := aM Q_HB
      have HO209 := aM (Q_HO209 (hon 1 (by kernel_rfl)))
      obtain ⟨Ao42, co42, eo42⟩ := Kd.N_slice HO209.out
      (first | subst eo42 | (injection eo42 with f1_ f2_ f3_; have f4_ := f1_.symm; have f5_ := f3_.symm; clear f1_ f2_ f3_; subst f4_; subst f5_))
      refine goes_ Try.func16 (by kernel_rfl) rfl #[.slice Ao42 y207.length co42, .int .i64 0] (by rfl) rfl rfl (by first | (simp only [List.map_toArray, List.map_cons, List.map_nil, Act.eval, Array.getD_eq_getD_getElem?, Option.getD_some, e16]; done) | (simp only [List.map_toArray, List.map_cons, List.map_nil, Act.eval, Array.getD_eq_getD_getElem?, Option.getD_some, e16]; rfl)) ?_
      with_reducible refine (generalize_Lines.calls k (fun k_ => True) _ _ y207 0 t210 _ ?side1 A2.out).mono ?_
      (case side1 => exact Kd.N_V (HO209.out))
      rintro e w43 ⟨v211, rfl, ho0, hb⟩
      refine ⟨_, rfl, ?_⟩
      have n0_ := aM (rB (rl HO185) hb)
      have n1_ := aM (rB (rl HO188) hb)
      have n2_ := aM (rB (rl HO191) hb)
      have n3_ := aM (rB (rl HO194) hb)
      have n4_ := aM (rB (rl HO197) hb)
      have n5_ := aM (rB (rl HO202) hb)
      have n6_ := aM (rB (rl HO205) hb)
      have n7_ := aM (Kd.N_below (by (with_reducible repeat (first | apply Kd.N_alloc | apply Kd.N_drewN | apply Kd.N_drew)); exact HO209.out) hb)
      have n8_ := aM (Kd.N_lower (Kd.N_mono (ok' := fun k_ => True) ho0 (fun k_ hk_ => trivial)) (below_size (bl)))
      have n9_ := aM (kB (g := gb198) (o := .cells #[.int .i64 t182, .slice Ao23 t183.length co23, .slice Ao24 t186.length co24, .slice Ao25 t189.length co25] 31 (0, 0)) (kl BK198) hb)
      have n10_ := aM (kB (g := gb199) (o := .cells #[.int .i64 2, .slice Ao18 y192.length co18, .slice Ao17 y195.length co17, .slice none 0 0] 31 (0, 0)) (kl BK199) hb)
      have n11_ := aM (kB (g := gb206) (o := .cells #[.int .i64 1, .slice Ao32 y200.length co32, .slice Ao31 y203.length co31, .slice none 0 0] 31 (0, 0)) (kl BK206) hb)
      have n12_ := aM (bS (bl) hb)
      have z_HO215 := fun (h0_ : b 4 = true) => (show Kd.N k31 31 w43 w.heap.size (fun _ => True) v214 y213 from by first | exact (Kd.N_below (by (with_reducible repeat (first | apply Kd.N_alloc | apply Kd.N_drewN | apply Kd.N_drew)); exact (Q_HO215 h0_)) hb) | exact Kd.N_mono (Kd.N_below (by (with_reducible repeat (first | apply Kd.N_alloc | apply Kd.N_drewN | apply Kd.N_drew)); exact (Q_HO215 h0_)) hb) (fun _ h_ => by first | trivial | exact h_ | exact h_.1))
      clear HO185 HO188 HO191 HO194 HO197 HO202 HO205 HO209 BK198 BK199 BK206 HB
      have HO185 := n0_
      have HO188 := n1_
      have HO191 := n2_
      have HO194 := n3_
      have HO197 := n4_
      have HO202 := n5_
      have HO205 := n6_
      have HO209 := n7_
      have HO212 := n8_
      have BK198 := n9_
      have BK199 := n10_
      have BK206 := n11_
      have HB := n12_
      clear n0_ n1_ n2_ n3_ n4_ n5_ n6_ n7_ n8_ n9_ n10_ n11_ n12_
      (try clear hb)
      (try clear hb2)
      (try clear hk)
      (try clear hi)
      (try clear ho0)
      refine hK.out _ _ ⟨.slice Ao42 y207.length co42, v211, v214, v218, v221, v224, v228, v232, v235, v238, v242, v245, m20_, (by rw [ha.out]; exact putSel_upk 2 hb_ rfl rfl rfl), (rl HO185), (rl HO188), (rl HO191), (rl HO194), (rl HO197), (rl HO202), (rl HO205), (kl BK198), (kl BK199), (kl BK206), (bl), fun _ => (by (with_reducible repeat (first | apply Kd.N_alloc | apply Kd.N_drewN | apply Kd.N_drew)); exact HO209.out), fun _ => (by (with_reducible repeat (first | apply Kd.N_alloc | apply Kd.N_drewN | apply Kd.N_drew)); exact HO212.out), z_HO215, fun h0_ => absurd ((hoff 9 (by kernel_rfl)).symm.trans h0_) (by decide), fun h0_ => absurd ((hoff 10 (by kernel_rfl)).symm.trans h0_) (by decide), fun h0_ => absurd ((hoff 13 (by kernel_rfl)).symm.trans h0_) (by decide), fun h0_ => absurd ((hoff 19 (by kernel_rfl)).symm.trans h0_) (by decide), fun h0_ => absurd ((hoff 20 (by kernel_rfl)).symm.trans h0_) (by decide), fun h0_ => absurd ((hoff 20 (by kernel_rfl)).symm.trans h0_) (by decide), fun h0_ => absurd ((hoff 20 (by kernel_rfl)).symm.trans h0_) (by decide), fun h0_ => absurd ((hoff 27 (by kernel_rfl)).symm.trans h0_) (by decide), fun h0_ => absurd ((hoff 28 (by kernel_rfl)).symm.trans h0_) (by decide), fun h0_ => absurd ((hoff 20 (by kernel_rfl)).symm.trans h0_) (by decide)⟩
     refine steps_cons ?_ ?_
     ·rintro b a w' ⟨v208, v211, v214, v218, v221, v224, v228, v232, v235, v238, v242, v245, m20_, ha, Q_HO185, Q_HO188, Q_HO191, Q_HO194, Q_HO197, Q_HO202, Q_HO205, Q_BK198, Q_BK199, Q_BK206, Q_HB, Q_HO209, Q_HO212, Q_HO215, Q_HO219, Q_HO222, Q_HO225, Q_HO229, Q_HO233, Q_HO236, Q_HO239, Q_HO243, Q_HO246, Q_X20_⟩ hb_ hon hoff
      refine ⟨_, rfl, fun K hK => ?_⟩
      have e3 : a.tmps[3]? = some (.pointer (some ⟨gb206, 0, none⟩)) := by rw [ha]; exact (putSel_off rfl).trans rfl
      replace ha := aM ha
      have HO185 := aM Q_HO185
      have HO188 := aM Q_HO188
      have HO191 := aM Q_HO191
      have HO194 := aM Q_HO194
      have HO197 := aM Q_HO197
      have HO202 := aM Q_HO202
      have HO205 := aM Q_HO205
      have BK198 := aM Q_BK198
      have BK199 := aM Q_BK199
      have BK206 := aM Q_BK206
      have HB := aM Q_HB
      have hc0_ : w'.cell? ⟨gb206, 0, none⟩ = some (.int .i64 1) := (kC BK206.out 0).trans rfl
      have hc1_ : w'.cell? ⟨gb206, 1, none⟩ = some (.slice Ao32 y200.length co32) := (kC BK206.out 1).trans rfl
      have hc2_ : w'.cell? ⟨gb206, 2, none⟩ = some (.slice Ao31 y203.length co31) := (kC BK206.out 2).trans rfl
      have hc3_ : w'.cell? ⟨gb206, 3, none⟩ = some (.slice none 0 0) := (kC BK206.out 3).trans rfl
      refine value_ (w1 := w') (v := .agg #[.int .i64 1, .slice Ao32 y200.length co32, .slice Ao31 y203.length co31, .slice none 0 0]) (by rfl) rfl ?_ ?_
      ·go_simp
       (try simp only [i64_w])
       try rfl
      refine hK.out _ _ ⟨v208, v211, v214, v218, v221, v224, v228, v232, v235, v238, v242, v245, m20_, (by rw [ha.out]; exact putSel_upk 3 hb_ rfl rfl rfl), Q_HO185, Q_HO188, Q_HO191, Q_HO194, Q_HO197, Q_HO202, Q_HO205, Q_BK198, Q_BK199, Q_BK206, Q_HB, Q_HO209, Q_HO212, fun h0_ => absurd ((hoff 4 (by kernel_rfl)).symm.trans h0_) (by decide), fun h0_ => absurd ((hoff 9 (by kernel_rfl)).symm.trans h0_) (by decide), fun h0_ => absurd ((hoff 10 (by kernel_rfl)).symm.trans h0_) (by decide), fun h0_ => absurd ((hoff 13 (by kernel_rfl)).symm.trans h0_) (by decide), fun h0_ => absurd ((hoff 19 (by kernel_rfl)).symm.trans h0_) (by decide), fun h0_ => absurd ((hoff 20 (by kernel_rfl)).symm.trans h0_) (by decide), fun h0_ => absurd ((hoff 20 (by kernel_rfl)).symm.trans h0_) (by decide), fun h0_ => absurd ((hoff 20 (by kernel_rfl)).symm.trans h0_) (by decide), fun h0_ => absurd ((hoff 27 (by kernel_rfl)).symm.trans h0_) (by decide), fun h0_ => absurd ((hoff 28 (by kernel_rfl)).symm.trans h0_) (by decide), fun h0_ => absurd ((hoff 20 (by kernel_rfl)).symm.trans h0_) (by decide)⟩
     refine steps_cons ?_ ?_
     ·rintro b a w' ⟨v208, v211, v214, v218, v221, v224, v228, v232, v235, v238, v242, v245, m20_, ha, Q_HO185, Q_HO188, Q_HO191, Q_HO194, Q_HO197, Q_HO202, Q_HO205, Q_BK198, Q_BK199, Q_BK206, Q_HB, Q_HO209, Q_HO212, Q_HO215, Q_HO219, Q_HO222, Q_HO225, Q_HO229, Q_HO233, Q_HO236, Q_HO239, Q_HO243, Q_HO246, Q_X20_⟩ hb_ hon hoff
      refine ⟨_, rfl, fun K hK => ?_⟩
      have e18 : a.tmps[18]? = some (.agg #[.int .i64 1, .slice Ao32 y200.length co32, .slice Ao31 y203.length co31, .slice none 0 0]) := by rw [ha]; exact putSel_on (e := (3, 18, .agg #[.int .i64 1, .slice Ao32 y200.length co32, .slice Ao31 y203.length co31, .slice none 0 0])) 3 rfl rfl (hon 3 (by kernel_rfl)) rfl
      replace ha := aM ha
      have HO185 := aM Q_HO185
      have HO188 := aM Q_HO188
      have HO191 := aM Q_HO191
      have HO194 := aM Q_HO194
      have HO197 := aM Q_HO197
      have HO202 := aM Q_HO202
      have HO205 := aM Q_HO205
      have BK198 := aM Q_BK198
      have BK199 := aM Q_BK199
      have BK206 := aM Q_BK206
      have HB := aM Q_HB
      refine Kd.N_lit_step k31 _ 31 ?hg (N' := 19) ?hd (xs := ([(⟨1, y200, y203, ([] : List (S80))⟩ : S31)] : List (S31))) (inner := [.int .i64 1, .slice Ao32 y200.length co32, .slice Ao31 y203.length co31, .slice none 0 0]) (ok := (fun _ => True)) (okp := (fun _ => True)) ?hr ?hp (fun _ hk => hk) ((show ∀ k_, w'.heap.size ≤ k_ → (fun _ => True) k_ from fun k_ hk => trivial) _ (Nat.le_refl _)) (Below.refl _ _) (Nat.le_refl _) (by simp) ?_; (case hd => rfl); (case hg => rfl); (case hr => first | (go_simp; done) | (go_simp; rfl)); (case hp => exact (Reps.c4 (show Kd.FK k31 _ _ (⟨1, y200, y203, ([] : List (S80))⟩ : S31) [.int .i64 1, .slice Ao32 y200.length co32, .slice Ao31 y203.length co31, .slice none 0 0] from (k31_mkF _ _ (⟨1, y200, y203, ([] : List (S80))⟩ : S31) (rR (rM (ok' := (fun _ => True)) (HO202.out) (fun k_ hk => trivial))).2.1 (Kd.R_F (rM (ok' := (fun _ => True)) (HO202.out) (fun k_ hk => trivial))) (rR (rM (ok' := (fun _ => True)) (HO205.out) (fun k_ hk => trivial))).2.1 (Kd.R_F (rM (ok' := (fun _ => True)) (HO205.out) (fun k_ hk => trivial))) (Nat.le_refl _) (Kd.F_nil _ _ _))) (Reps.none _ _)))
      intro v214 w39 ho40 hb hg_ hnew_
      clear hg_ hnew_
      (first | rw [← Ny213.out] at ho40 | (simp only [Int.reduceToNat] at ho40; rw [← Ny213.out] at ho40))
      have n0_ := aM (rB (rl HO185) hb)
      have n1_ := aM (rB (rl HO188) hb)
      have n2_ := aM (rB (rl HO191) hb)
      have n3_ := aM (rB (rl HO194) hb)
      have n4_ := aM (rB (rl HO197) hb)
      have n5_ := aM (rB (rl HO202) hb)
      have n6_ := aM (rB (rl HO205) hb)
      have n7_ := aM (Kd.N_lower ho40 (below_size (bl)))
      have n8_ := aM (kB (g := gb198) (o := .cells #[.int .i64 t182, .slice Ao23 t183.length co23, .slice Ao24 t186.length co24, .slice Ao25 t189.length co25] 31 (0, 0)) (kl BK198) hb)
      have n9_ := aM (kB (g := gb199) (o := .cells #[.int .i64 2, .slice Ao18 y192.length co18, .slice Ao17 y195.length co17, .slice none 0 0] 31 (0, 0)) (kl BK199) hb)
      have n10_ := aM (kB (g := gb206) (o := .cells #[.int .i64 1, .slice Ao32 y200.length co32, .slice Ao31 y203.length co31, .slice none 0 0] 31 (0, 0)) (kl BK206) hb)
      have n11_ := aM (bS (bl) hb)
      have z_HO209 := fun (h0_ : b 1 = true) => (show Kd.N k31 31 w39 w.heap.size (fun _ => True) v208 y207 from by first | exact (Kd.N_below (by (with_reducible repeat (first | apply Kd.N_alloc | apply Kd.N_drewN | apply Kd.N_drew)); exact (Q_HO209 h0_)) hb) | exact Kd.N_mono (Kd.N_below (by (with_reducible repeat (first | apply Kd.N_alloc | apply Kd.N_drewN | apply Kd.N_drew)); exact (Q_HO209 h0_)) hb) (fun _ h_ => by first | trivial | exact h_ | exact h_.1))
      have z_HO212 := fun (h0_ : b 2 = true) => (show Kd.N k31 31 w39 w.heap.size (fun _ => True) v211 t210 from by first | exact (Kd.N_below (by (with_reducible repeat (first | apply Kd.N_alloc | apply Kd.N_drewN | apply Kd.N_drew)); exact (Q_HO212 h0_)) hb) | exact Kd.N_mono (Kd.N_below (by (with_reducible repeat (first | apply Kd.N_alloc | apply Kd.N_drewN | apply Kd.N_drew)); exact (Q_HO212 h0_)) hb) (fun _ h_ => by first | trivial | exact h_ | exact h_.1))
      clear HO185 HO188 HO191 HO194 HO197 HO202 HO205 BK198 BK199 BK206 HB
      have HO185 := n0_
      have HO188 := n1_
      have HO191 := n2_
      have HO194 := n3_
      have HO197 := n4_
      have HO202 := n5_
      have HO205 := n6_
      have HO215 := n7_
      have BK198 := n8_
      have BK199 := n9_
      have BK206 := n10_
      have HB := n11_
      clear n0_ n1_ n2_ n3_ n4_ n5_ n6_ n7_ n8_ n9_ n10_ n11_ hb ho40
      refine hK.out _ _ ⟨v208, v211, v214, v218, v221, v224, v228, v232, v235, v238, v242, v245, m20_, (by rw [ha.out]; exact putSel_upk 4 hb_ rfl rfl rfl), (rl HO185), (rl HO188), (rl HO191), (rl HO194), (rl HO197), (rl HO202), (rl HO205), (kl BK198), (kl BK199), (kl BK206), (bl), z_HO209, z_HO212, fun _ => (by (with_reducible repeat (first | apply Kd.N_alloc | apply Kd.N_drewN | apply Kd.N_drew)); exact HO215.out), fun h0_ => absurd ((hoff 9 (by kernel_rfl)).symm.trans h0_) (by decide), fun h0_ => absurd ((hoff 10 (by kernel_rfl)).symm.trans h0_) (by decide), fun h0_ => absurd ((hoff 13 (by kernel_rfl)).symm.trans h0_) (by decide), fun h0_ => absurd ((hoff 19 (by kernel_rfl)).symm.trans h0_) (by decide), fun h0_ => absurd ((hoff 20 (by kernel_rfl)).symm.trans h0_) (by decide), fun h0_ => absurd ((hoff 20 (by kernel_rfl)).symm.trans h0_) (by decide), fun h0_ => absurd ((hoff 20 (by kernel_rfl)).symm.trans h0_) (by decide), fun h0_ => absurd ((hoff 27 (by kernel_rfl)).symm.trans h0_) (by decide), fun h0_ => absurd ((hoff 28 (by kernel_rfl)).symm.trans h0_) (by decide), fun h0_ => absurd ((hoff 20 (by kernel_rfl)).symm.trans h0_) (by decide)⟩
     refine steps_cons ?_ ?_
     ·rintro b a w' ⟨v208, v211, v214, v218, v221, v224, v228, v232, v235, v238, v242, v245, m20_, ha, Q_HO185, Q_HO188, Q_HO191, Q_HO194, Q_HO197, Q_HO202, Q_HO205, Q_BK198, Q_BK199, Q_BK206, Q_HB, Q_HO209, Q_HO212, Q_HO215, Q_HO219, Q_HO222, Q_HO225, Q_HO229, Q_HO233, Q_HO236, Q_HO239, Q_HO243, Q_HO246, Q_X20_⟩ hb_ hon hoff
      refine ⟨_, rfl, fun K hK => ?_⟩
      have e17 : a.tmps[17]? = some (v211) := by rw [ha]; exact putSel_on (e := (2, 17, v211)) 2 rfl rfl (hon 2 (by kernel_rfl)) rfl
      have e19 : a.tmps[19]? = some (v214) := by rw [ha]; exact putSel_on (e := (4, 19, v214)) 4 rfl rfl (hon 4 (by kernel_rfl)) rfl
      replace ha := aM ha
      have HO185 := aM Q_HO185
      have HO188 := aM Q_HO188
      have HO191 := aM Q_HO191
      have HO194 := aM Q_HO194
      have HO197 := aM Q_HO197
      have HO202 := aM Q_HO202
      have HO205 := aM Q_HO205
      have BK198 := aM Q_BK198
      have BK199 := aM Q_BK199
      have BK206 := aM Q_BK206
      have HB := aM Q_HB
      have HO209 := aM (Q_HO209 (hon 1 (by kernel_rfl)))
      have HO212 := aM (Q_HO212 (hon 2 (by kernel_rfl)))
      have HO215 := aM (Q_HO215 (hon 4 (by kernel_rfl)))
      obtain ⟨Ao46, co46, eo46⟩ := Kd.N_slice HO212.out
      (first | subst eo46 | (injection eo46 with f1_ f2_ f3_; have f4_ := f1_.symm; have f5_ := f3_.symm; clear f1_ f2_ f3_; subst f4_; subst f5_))
      obtain ⟨Ao47, co47, eo47⟩ := Kd.N_slice HO215.out
      (first | subst eo47 | (injection eo47 with f1_ f2_ f3_; have f4_ := f1_.symm; have f5_ := f3_.symm; clear f1_ f2_ f3_; subst f4_; subst f5_))
      refine goes_ Try.func15 (by kernel_rfl) rfl #[.slice Ao46 t210.length co46, .slice Ao47 y213.length co47] (by rfl) rfl rfl (by first | (simp only [List.map_toArray, List.map_cons, List.map_nil, Act.eval, Array.getD_eq_getD_getElem?, Option.getD_some, e17, e19]; done) | (simp only [List.map_toArray, List.map_cons, List.map_nil, Act.eval, Array.getD_eq_getD_getElem?, Option.getD_some, e17, e19]; rfl)) ?_
      with_reducible refine (mapmakerlaw26_all.calls k _ _ t210 _ _ y213 true _ ?side1 ?side2 ?side3 ?side4 A3.out).mono ?_
      (case side1 => repeat (first | exact (Kd.N_reads' HO212.out).2.2 | (with_reducible refine cA ?_ _) | (with_reducible refine cN ?_ _) | (with_reducible refine cD ?_)))
      (case side2 => exact (Kd.N_reads' HO212.out).2.1)
      (case side3 => repeat (first | exact (Kd.N_reads' HO215.out).2.2 | (with_reducible refine cA ?_ _) | (with_reducible refine cN ?_ _) | (with_reducible refine cD ?_)))
      (case side4 => exact (Kd.N_reads' HO215.out).2.1)
      rintro e w48 ⟨rfl, hb⟩
      refine ⟨_, rfl, ?_⟩
      replace HO185 := aM (rB (rl HO185) hb)
      replace HO188 := aM (rB (rl HO188) hb)
      replace HO191 := aM (rB (rl HO191) hb)
      replace HO194 := aM (rB (rl HO194) hb)
      replace HO197 := aM (rB (rl HO197) hb)
      replace HO202 := aM (rB (rl HO202) hb)
      replace HO205 := aM (rB (rl HO205) hb)
      replace HO209 := aM (Kd.N_below (by (with_reducible repeat (first | apply Kd.N_alloc | apply Kd.N_drewN | apply Kd.N_drew)); exact HO209.out) hb)
      replace HO212 := aM (Kd.N_below (by (with_reducible repeat (first | apply Kd.N_alloc | apply Kd.N_drewN | apply Kd.N_drew)); exact HO212.out) hb)
      replace HO215 := aM (Kd.N_below (by (with_reducible repeat (first | apply Kd.N_alloc | apply Kd.N_drewN | apply Kd.N_drew)); exact HO215.out) hb)
      replace BK198 := aM (kB (g := gb198) (o := .cells #[.int .i64 t182, .slice Ao23 t183.length co23, .slice Ao24 t186.length co24, .slice Ao25 t189.length co25] 31 (0, 0)) (kl BK198) hb)
      replace BK199 := aM (kB (g := gb199) (o := .cells #[.int .i64 2, .slice Ao18 y192.length co18, .slice Ao17 y195.length co17, .slice none 0 0] 31 (0, 0)) (kl BK199) hb)
      replace BK206 := aM (kB (g := gb206) (o := .cells #[.int .i64 1, .slice Ao32 y200.length co32, .slice Ao31 y203.length co31, .slice none 0 0] 31 (0, 0)) (kl BK206) hb)
      replace HB := aM (bS (bl) hb)
      (try clear hb)
      (try clear hb2)
      (try clear hk)
      (try clear hi)
      refine hK.out _ _ ⟨v208, .slice Ao46 t210.length co46, .slice Ao47 y213.length co47, v218, v221, v224, v228, v232, v235, v238, v242, v245, m20_, (by rw [ha.out]; exact putSel_upk 5 hb_ rfl rfl rfl), (rl HO185), (rl HO188), (rl HO191), (rl HO194), (rl HO197), (rl HO202), (rl HO205), (kl BK198), (kl BK199), (kl BK206), (bl), fun _ => (by (with_reducible repeat (first | apply Kd.N_alloc | apply Kd.N_drewN | apply Kd.N_drew)); exact HO209.out), fun _ => (by (with_reducible repeat (first | apply Kd.N_alloc | apply Kd.N_drewN | apply Kd.N_drew)); exact HO212.out), fun _ => (by (with_reducible repeat (first | apply Kd.N_alloc | apply Kd.N_drewN | apply Kd.N_drew)); exact HO215.out), fun h0_ => absurd ((hoff 9 (by kernel_rfl)).symm.trans h0_) (by decide), fun h0_ => absurd ((hoff 10 (by kernel_rfl)).symm.trans h0_) (by decide), fun h0_ => absurd ((hoff 13 (by kernel_rfl)).symm.trans h0_) (by decide), fun h0_ => absurd ((hoff 19 (by kernel_rfl)).symm.trans h0_) (by decide), fun h0_ => absurd ((hoff 20 (by kernel_rfl)).symm.trans h0_) (by decide), fun h0_ => absurd ((hoff 20 (by kernel_rfl)).symm.trans h0_) (by decide), fun h0_ => absurd ((hoff 20 (by kernel_rfl)).symm.trans h0_) (by decide), fun h0_ => absurd ((hoff 27 (by kernel_rfl)).symm.trans h0_) (by decide), fun h0_ => absurd ((hoff 28 (by kernel_rfl)).symm.trans h0_) (by decide), fun h0_ => absurd ((hoff 20 (by kernel_rfl)).symm.trans h0_) (by decide)⟩
     refine steps_cons ?_ ?_
     ·rintro b a w' ⟨v208, v211, v214, v218, v221, v224, v228, v232, v235, v238, v242, v245, m20_, ha, Q_HO185, Q_HO188, Q_HO191, Q_HO194, Q_HO197, Q_HO202, Q_HO205, Q_BK198, Q_BK199, Q_BK206, Q_HB, Q_HO209, Q_HO212, Q_HO215, Q_HO219, Q_HO222, Q_HO225, Q_HO229, Q_HO233, Q_HO236, Q_HO239, Q_HO243, Q_HO246, Q_X20_⟩ hb_ hon hoff
      refine ⟨_, rfl, fun K hK => ?_⟩
      have e20 : a.tmps[20]? = some (.bool true) := by rw [ha]; exact putSel_on (e := (5, 20, .bool true)) 5 rfl rfl (hon 5 (by kernel_rfl)) rfl
      replace ha := aM ha
      have HO185 := aM Q_HO185
      have HO188 := aM Q_HO188
      have HO191 := aM Q_HO191
      have HO194 := aM Q_HO194
      have HO197 := aM Q_HO197
      have HO202 := aM Q_HO202
      have HO205 := aM Q_HO205
      have BK198 := aM Q_BK198
      have BK199 := aM Q_BK199
      have BK206 := aM Q_BK206
      have HB := aM Q_HB
      have HO209 := aM (Q_HO209 (hon 1 (by kernel_rfl)))
      have HO212 := aM (Q_HO212 (hon 2 (by kernel_rfl)))
      have HO215 := aM (Q_HO215 (hon 4 (by kernel_rfl)))
      refine value_ (w1 := w') (v := .bool true) (by rfl) rfl ?_ ?_
      ·go_simp
       (try simp only [i64_w])
       try rfl
      refine hK.out _ _ ⟨v208, v211, v214, v218, v221, v224, v228, v232, v235, v238, v242, v245, m20_, (by rw [ha.out]; exact putSel_upk 6 hb_ rfl rfl rfl), Q_HO185, Q_HO188, Q_HO191, Q_HO194, Q_HO197, Q_HO202, Q_HO205, Q_BK198, Q_BK199, Q_BK206, Q_HB, Q_HO209, Q_HO212, Q_HO215, fun h0_ => absurd ((hoff 9 (by kernel_rfl)).symm.trans h0_) (by decide), fun h0_ => absurd ((hoff 10 (by kernel_rfl)).symm.trans h0_) (by decide), fun h0_ => absurd ((hoff 13 (by kernel_rfl)).symm.trans h0_) (by decide), fun h0_ => absurd ((hoff 19 (by kernel_rfl)).symm.trans h0_) (by decide), fun h0_ => absurd ((hoff 20 (by kernel_rfl)).symm.trans h0_) (by decide), fun h0_ => absurd ((hoff 20 (by kernel_rfl)).symm.trans h0_) (by decide), fun h0_ => absurd ((hoff 20 (by kernel_rfl)).symm.trans h0_) (by decide), fun h0_ => absurd ((hoff 27 (by kernel_rfl)).symm.trans h0_) (by decide), fun h0_ => absurd ((hoff 28 (by kernel_rfl)).symm.trans h0_) (by decide), fun h0_ => absurd ((hoff 20 (by kernel_rfl)).symm.trans h0_) (by decide)⟩
     refine steps_cons ?_ ?_
     ·rintro b a w' ⟨v208, v211, v214, v218, v221, v224, v228, v232, v235, v238, v242, v245, m20_, ha, Q_HO185, Q_HO188, Q_HO191, Q_HO194, Q_HO197, Q_HO202, Q_HO205, Q_BK198, Q_BK199, Q_BK206, Q_HB, Q_HO209, Q_HO212, Q_HO215, Q_HO219, Q_HO222, Q_HO225, Q_HO229, Q_HO233, Q_HO236, Q_HO239, Q_HO243, Q_HO246, Q_X20_⟩ hb_ hon hoff
      refine ⟨_, rfl, fun K hK => ?_⟩
      have e1 : a.tmps[1]? = some (.pointer (some ⟨gb198, 0, none⟩)) := by rw [ha]; exact (putSel_off rfl).trans rfl
      have e21 : a.tmps[21]? = some (.bool true) := by rw [ha]; exact putSel_on (e := (6, 21, .bool true)) 6 rfl rfl (hon 6 (by kernel_rfl)) rfl
      replace ha := aM ha
      have HO185 := aM Q_HO185
      have HO188 := aM Q_HO188
      have HO191 := aM Q_HO191
      have HO194 := aM Q_HO194
      have HO197 := aM Q_HO197
      have HO202 := aM Q_HO202
      have HO205 := aM Q_HO205
      have BK198 := aM Q_BK198
      have BK199 := aM Q_BK199
      have BK206 := aM Q_BK206
      have HB := aM Q_HB
      have HO209 := aM (Q_HO209 (hon 1 (by kernel_rfl)))
      have HO212 := aM (Q_HO212 (hon 2 (by kernel_rfl)))
      have HO215 := aM (Q_HO215 (hon 4 (by kernel_rfl)))
      have hc0_ : w'.cell? ⟨gb198, 0, none⟩ = some (.int .i64 t182) := (kC BK198.out 0).trans rfl
      have hc1_ : w'.cell? ⟨gb198, 1, none⟩ = some (.slice Ao23 t183.length co23) := (kC BK198.out 1).trans rfl
      have hc2_ : w'.cell? ⟨gb198, 2, none⟩ = some (.slice Ao24 t186.length co24) := (kC BK198.out 2).trans rfl
      have hc3_ : w'.cell? ⟨gb198, 3, none⟩ = some (.slice Ao25 t189.length co25) := (kC BK198.out 3).trans rfl
      refine value_ (w1 := w') (v := .agg #[.int .i64 t182, .slice Ao23 t183.length co23, .slice Ao24 t186.length co24, .slice Ao25 t189.length co25]) (wanted_on rfl rfl rfl (e21.trans (by first | rfl | (simp [*]; done)))) rfl ?_ ?_
      ·go_simp
       (try simp only [i64_w])
       try rfl
      refine hK.out _ _ ⟨v208, v211, v214, v218, v221, v224, v228, v232, v235, v238, v242, v245, m20_, (by rw [ha.out]; exact putSel_upk 7 hb_ rfl rfl rfl), Q_HO185, Q_HO188, Q_HO191, Q_HO194, Q_HO197, Q_HO202, Q_HO205, Q_BK198, Q_BK199, Q_BK206, Q_HB, Q_HO209, Q_HO212, Q_HO215, fun h0_ => absurd ((hoff 9 (by kernel_rfl)).symm.trans h0_) (by decide), fun h0_ => absurd ((hoff 10 (by kernel_rfl)).symm.trans h0_) (by decide), Q_HO225, fun h0_ => absurd ((hoff 19 (by kernel_rfl)).symm.trans h0_) (by decide), fun h0_ => absurd ((hoff 20 (by kernel_rfl)).symm.trans h0_) (by decide), fun h0_ => absurd ((hoff 20 (by kernel_rfl)).symm.trans h0_) (by decide), fun h0_ => absurd ((hoff 20 (by kernel_rfl)).symm.trans h0_) (by decide), fun h0_ => absurd ((hoff 27 (by kernel_rfl)).symm.trans h0_) (by decide), fun h0_ => absurd ((hoff 28 (by kernel_rfl)).symm.trans h0_) (by decide), fun h0_ => absurd ((hoff 20 (by kernel_rfl)).symm.trans h0_) (by decide)⟩
     refine steps_cons ?_ ?_
     ·rintro b a w' ⟨v208, v211, v214, v218, v221, v224, v228, v232, v235, v238, v242, v245, m20_, ha, Q_HO185, Q_HO188, Q_HO191, Q_HO194, Q_HO197, Q_HO202, Q_HO205, Q_BK198, Q_BK199, Q_BK206, Q_HB, Q_HO209, Q_HO212, Q_HO215, Q_HO219, Q_HO222, Q_HO225, Q_HO229, Q_HO233, Q_HO236, Q_HO239, Q_HO243, Q_HO246, Q_X20_⟩ hb_ hon hoff
      refine ⟨_, rfl, fun K hK => ?_⟩
      have e2 : a.tmps[2]? = some (.pointer (some ⟨gb199, 0, none⟩)) := by rw [ha]; exact (putSel_off rfl).trans rfl
      have e21 : a.tmps[21]? = some (.bool true) := by rw [ha]; exact putSel_on (e := (6, 21, .bool true)) 6 rfl rfl (hon 6 (by kernel_rfl)) rfl
      replace ha := aM ha
      have HO185 := aM Q_HO185
      have HO188 := aM Q_HO188
      have HO191 := aM Q_HO191
      have HO194 := aM Q_HO194
      have HO197 := aM Q_HO197
      have HO202 := aM Q_HO202
      have HO205 := aM Q_HO205
      have BK198 := aM Q_BK198
      have BK199 := aM Q_BK199
      have BK206 := aM Q_BK206
      have HB := aM Q_HB
      have HO209 := aM (Q_HO209 (hon 1 (by kernel_rfl)))
      have HO212 := aM (Q_HO212 (hon 2 (by kernel_rfl)))
      have HO215 := aM (Q_HO215 (hon 4 (by kernel_rfl)))
      have hc0_ : w'.cell? ⟨gb199, 0, none⟩ = some (.int .i64 2) := (kC BK199.out 0).trans rfl
      have hc1_ : w'.cell? ⟨gb199, 1, none⟩ = some (.slice Ao18 y192.length co18) := (kC BK199.out 1).trans rfl
      have hc2_ : w'.cell? ⟨gb199, 2, none⟩ = some (.slice Ao17 y195.length co17) := (kC BK199.out 2).trans rfl
      have hc3_ : w'.cell? ⟨gb199, 3, none⟩ = some (.slice none 0 0) := (kC BK199.out 3).trans rfl
      refine value_ (w1 := w') (v := .agg #[.int .i64 2, .slice Ao18 y192.length co18, .slice Ao17 y195.length co17, .slice none 0 0]) (wanted_on rfl rfl rfl (e21.trans (by first | rfl | (simp [*]; done)))) rfl ?_ ?_
      ·go_simp
       (try simp only [i64_w])
       try rfl
      refine hK.out _ _ ⟨v208, v211, v214, v218, v221, v224, v228, v232, v235, v238, v242, v245, m20_, (by rw [ha.out]; exact putSel_upk 8 hb_ rfl rfl rfl), Q_HO185, Q_HO188, Q_HO191, Q_HO194, Q_HO197, Q_HO202, Q_HO205, Q_BK198, Q_BK199, Q_BK206, Q_HB, Q_HO209, Q_HO212, Q_HO215, fun h0_ => absurd ((hoff 9 (by kernel_rfl)).symm.trans h0_) (by decide), fun h0_ => absurd ((hoff 10 (by kernel_rfl)).symm.trans h0_) (by decide), Q_HO225, fun h0_ => absurd ((hoff 19 (by kernel_rfl)).symm.trans h0_) (by decide), fun h0_ => absurd ((hoff 20 (by kernel_rfl)).symm.trans h0_) (by decide), fun h0_ => absurd ((hoff 20 (by kernel_rfl)).symm.trans h0_) (by decide), fun h0_ => absurd ((hoff 20 (by kernel_rfl)).symm.trans h0_) (by decide), fun h0_ => absurd ((hoff 27 (by kernel_rfl)).symm.trans h0_) (by decide), fun h0_ => absurd ((hoff 28 (by kernel_rfl)).symm.trans h0_) (by decide), fun h0_ => absurd ((hoff 20 (by kernel_rfl)).symm.trans h0_) (by decide)⟩
     refine steps_cons ?_ ?_
     ·rintro b a w' ⟨v208, v211, v214, v218, v221, v224, v228, v232, v235, v238, v242, v245, m20_, ha, Q_HO185, Q_HO188, Q_HO191, Q_HO194, Q_HO197, Q_HO202, Q_HO205, Q_BK198, Q_BK199, Q_BK206, Q_HB, Q_HO209, Q_HO212, Q_HO215, Q_HO219, Q_HO222, Q_HO225, Q_HO229, Q_HO233, Q_HO236, Q_HO239, Q_HO243, Q_HO246, Q_X20_⟩ hb_ hon hoff
      refine ⟨_, rfl, fun K hK => ?_⟩
      have e22 : a.tmps[22]? = some (.agg #[.int .i64 t182, .slice Ao23 t183.length co23, .slice Ao24 t186.length co24, .slice Ao25 t189.length co25]) := by rw [ha]; exact putSel_on (e := (7, 22, .agg #[.int .i64 t182, .slice Ao23 t183.length co23, .slice Ao24 t186.length co24, .slice Ao25 t189.length co25])) 7 rfl rfl (hon 7 (by kernel_rfl)) rfl
      have e23 : a.tmps[23]? = some (.agg #[.int .i64 2, .slice Ao18 y192.length co18, .slice Ao17 y195.length co17, .slice none 0 0]) := by rw [ha]; exact putSel_on (e := (8, 23, .agg #[.int .i64 2, .slice Ao18 y192.length co18, .slice Ao17 y195.length co17, .slice none 0 0])) 8 rfl rfl (hon 8 (by kernel_rfl)) rfl
      have e21 : a.tmps[21]? = some (.bool true) := by rw [ha]; exact putSel_on (e := (6, 21, .bool true)) 6 rfl rfl (hon 6 (by kernel_rfl)) rfl
      replace ha := aM ha
      have HO185 := aM Q_HO185
      have HO188 := aM Q_HO188
      have HO191 := aM Q_HO191
      have HO194 := aM Q_HO194
      have HO197 := aM Q_HO197
      have HO202 := aM Q_HO202
      have HO205 := aM Q_HO205
      have BK198 := aM Q_BK198
      have BK199 := aM Q_BK199
      have BK206 := aM Q_BK206
      have HB := aM Q_HB
      have HO209 := aM (Q_HO209 (hon 1 (by kernel_rfl)))
      have HO212 := aM (Q_HO212 (hon 2 (by kernel_rfl)))
      have HO215 := aM (Q_HO215 (hon 4 (by kernel_rfl)))
      refine Kd.N_lit_step k31 _ 31 ?hg (N' := 24) ?hd (xs := ([(⟨t182, t183, t186, t189⟩ : S31), (⟨2, y192, y195, ([] : List (S80))⟩ : S31)] : List (S31))) (inner := [.int .i64 t182, .slice Ao23 t183.length co23, .slice Ao24 t186.length co24, .slice Ao25 t189.length co25, .int .i64 2, .slice Ao18 y192.length co18, .slice Ao17 y195.length co17, .slice none 0 0]) (ok := (fun _ => True)) (okp := (fun _ => True)) ?hr ?hp (fun _ hk => hk) ((show ∀ k_, w'.heap.size ≤ k_ → (fun _ => True) k_ from fun k_ hk => trivial) _ (Nat.le_refl _)) (Below.refl _ _) (Nat.le_refl _) (by simp) ?_; (case hd => rfl); (case hg => exact (wanted_on rfl rfl rfl (e21.trans (by first | rfl | (simp [*]; done))))); (case hr => first | (go_simp; done) | (go_simp; rfl)); (case hp => exact (Reps.c4 (show Kd.FK k31 _ _ (⟨t182, t183, t186, t189⟩ : S31) [.int .i64 t182, .slice Ao23 t183.length co23, .slice Ao24 t186.length co24, .slice Ao25 t189.length co25] from (k31_mkF _ _ (⟨t182, t183, t186, t189⟩ : S31) (rR (rM (ok' := (fun _ => True)) (HO185.out) (fun k_ hk => trivial))).2.1 (Kd.R_F (rM (ok' := (fun _ => True)) (HO185.out) (fun k_ hk => trivial))) (rR (rM (ok' := (fun _ => True)) (HO188.out) (fun k_ hk => trivial))).2.1 (Kd.R_F (rM (ok' := (fun _ => True)) (HO188.out) (fun k_ hk => trivial))) (rR (rM (ok' := (fun _ => True)) (HO191.out) (fun k_ hk => trivial))).2.1 (Kd.R_F (rM (ok' := (fun _ => True)) (HO191.out) (fun k_ hk => trivial))))) (Reps.c4 (show Kd.FK k31 _ _ (⟨2, y192, y195, ([] : List (S80))⟩ : S31) [.int .i64 2, .slice Ao18 y192.length co18, .slice Ao17 y195.length co17, .slice none 0 0] from (k31_mkF _ _ (⟨2, y192, y195, ([] : List (S80))⟩ : S31) (rR (rM (ok' := (fun _ => True)) (HO194.out) (fun k_ hk => trivial))).2.1 (Kd.R_F (rM (ok' := (fun _ => True)) (HO194.out) (fun k_ hk => trivial))) (rR (rM (ok' := (fun _ => True)) (HO197.out) (fun k_ hk => trivial))).2.1 (Kd.R_F (rM (ok' := (fun _ => True)) (HO197.out) (fun k_ hk => trivial))) (Nat.le_refl _) (Kd.F_nil _ _ _))) (Reps.none _ _))))
      intro v218 w49 ho50 hb hg_ hnew_
      clear hg_ hnew_
      (first | rw [← Ny217.out] at ho50 | (simp only [Int.reduceToNat] at ho50; rw [← Ny217.out] at ho50))
      have n0_ := aM (rB (rl HO185) hb)
      have n1_ := aM (rB (rl HO188) hb)
      have n2_ := aM (rB (rl HO191) hb)
      have n3_ := aM (rB (rl HO194) hb)
      have n4_ := aM (rB (rl HO197) hb)
      have n5_ := aM (rB (rl HO202) hb)
      have n6_ := aM (rB (rl HO205) hb)
      have n7_ := aM (Kd.N_below (by (with_reducible repeat (first | apply Kd.N_alloc | apply Kd.N_drewN | apply Kd.N_drew)); exact HO209.out) hb)
      have n8_ := aM (Kd.N_below (by (with_reducible repeat (first | apply Kd.N_alloc | apply Kd.N_drewN | apply Kd.N_drew)); exact HO212.out) hb)
      have n9_ := aM (Kd.N_below (by (with_reducible repeat (first | apply Kd.N_alloc | apply Kd.N_drewN | apply Kd.N_drew)); exact HO215.out) hb)
      have n10_ := aM (Kd.N_lower ho50 (below_size (bl)))
      have n11_ := aM (kB (g := gb198) (o := .cells #[.int .i64 t182, .slice Ao23 t183.length co23, .slice Ao24 t186.length co24, .slice Ao25 t189.length co25] 31 (0, 0)) (kl BK198) hb)
      have n12_ := aM (kB (g := gb199) (o := .cells #[.int .i64 2, .slice Ao18 y192.length co18, .slice Ao17 y195.length co17, .slice none 0 0] 31 (0, 0)) (kl BK199) hb)
      have n13_ := aM (kB (g := gb206) (o := .cells #[.int .i64 1, .slice Ao32 y200.length co32, .slice Ao31 y203.length co31, .slice none 0 0] 31 (0, 0)) (kl BK206) hb)
      have n14_ := aM (bS (bl) hb)
      have z_HO225 := fun (h0_ : b 13 = true) => (show Kd.N k31 31 w49 w.heap.size (fun _ => True) v224 y223 from by first | exact (Kd.N_below (by (with_reducible repeat (first | apply Kd.N_alloc | apply Kd.N_drewN | apply Kd.N_drew)); exact (Q_HO225 h0_)) hb) | exact Kd.N_mono (Kd.N_below (by (with_reducible repeat (first | apply Kd.N_alloc | apply Kd.N_drewN | apply Kd.N_drew)); exact (Q_HO225 h0_)) hb) (fun _ h_ => by first | trivial | exact h_ | exact h_.1))
      clear HO185 HO188 HO191 HO194 HO197 HO202 HO205 HO209 HO212 HO215 BK198 BK199 BK206 HB
      have HO185 := n0_
      have HO188 := n1_
      have HO191 := n2_
      have HO194 := n3_
      have HO197 := n4_
      have HO202 := n5_
      have HO205 := n6_
      have HO209 := n7_
      have HO212 := n8_
      have HO215 := n9_
      have HO219 := n10_
      have BK198 := n11_
      have BK199 := n12_
      have BK206 := n13_
      have HB := n14_
      clear n0_ n1_ n2_ n3_ n4_ n5_ n6_ n7_ n8_ n9_ n10_ n11_ n12_ n13_ n14_ hb ho50
      refine hK.out _ _ ⟨v208, v211, v214, v218, v221, v224, v228, v232, v235, v238, v242, v245, m20_, (by rw [ha.out]; exact putSel_upk 9 hb_ rfl rfl rfl), (rl HO185), (rl HO188), (rl HO191), (rl HO194), (rl HO197), (rl HO202), (rl HO205), (kl BK198), (kl BK199), (kl BK206), (bl), fun _ => (by (with_reducible repeat (first | apply Kd.N_alloc | apply Kd.N_drewN | apply Kd.N_drew)); exact HO209.out), fun _ => (by (with_reducible repeat (first | apply Kd.N_alloc | apply Kd.N_drewN | apply Kd.N_drew)); exact HO212.out), fun _ => (by (with_reducible repeat (first | apply Kd.N_alloc | apply Kd.N_drewN | apply Kd.N_drew)); exact HO215.out), fun _ => (by (with_reducible repeat (first | apply Kd.N_alloc | apply Kd.N_drewN | apply Kd.N_drew)); exact HO219.out), fun h0_ => absurd ((hoff 10 (by kernel_rfl)).symm.trans h0_) (by decide), z_HO225, fun h0_ => absurd ((hoff 19 (by kernel_rfl)).symm.trans h0_) (by decide), fun h0_ => absurd ((hoff 20 (by kernel_rfl)).symm.trans h0_) (by decide), fun h0_ => absurd ((hoff 20 (by kernel_rfl)).symm.trans h0_) (by decide), fun h0_ => absurd ((hoff 20 (by kernel_rfl)).symm.trans h0_) (by decide), fun h0_ => absurd ((hoff 27 (by kernel_rfl)).symm.trans h0_) (by decide), fun h0_ => absurd ((hoff 28 (by kernel_rfl)).symm.trans h0_) (by decide), fun h0_ => absurd ((hoff 20 (by kernel_rfl)).symm.trans h0_) (by decide)⟩
     refine steps_cons ?_ ?_
     ·rintro b a w' ⟨v208, v211, v214, v218, v221, v224, v228, v232, v235, v238, v242, v245, m20_, ha, Q_HO185, Q_HO188, Q_HO191, Q_HO194, Q_HO197, Q_HO202, Q_HO205, Q_BK198, Q_BK199, Q_BK206, Q_HB, Q_HO209, Q_HO212, Q_HO215, Q_HO219, Q_HO222, Q_HO225, Q_HO229, Q_HO233, Q_HO236, Q_HO239, Q_HO243, Q_HO246, Q_X20_⟩ hb_ hon hoff
      refine ⟨_, rfl, fun K hK => ?_⟩
      have e24 : a.tmps[24]? = some (v218) := by rw [ha]; exact putSel_on (e := (9, 24, v218)) 9 rfl rfl (hon 9 (by kernel_rfl)) rfl
      have e21 : a.tmps[21]? = some (.bool true) := by rw [ha]; exact putSel_on (e := (6, 21, .bool true)) 6 rfl rfl (hon 6 (by kernel_rfl)) rfl
      replace ha := aM ha
      have HO185 := aM Q_HO185
      have HO188 := aM Q_HO188
      have HO191 := aM Q_HO191
      have HO194 := aM Q_HO194
      have HO197 := aM Q_HO197
      have HO202 := aM Q_HO202
      have HO205 := aM Q_HO205
      have BK198 := aM Q_BK198
      have BK199 := aM Q_BK199
      have BK206 := aM Q_BK206
      have HB := aM Q_HB
      have HO209 := aM (Q_HO209 (hon 1 (by kernel_rfl)))
      have HO212 := aM (Q_HO212 (hon 2 (by kernel_rfl)))
      have HO215 := aM (Q_HO215 (hon 4 (by kernel_rfl)))
      have HO219 := aM (Q_HO219 (hon 9 (by kernel_rfl)))
      obtain ⟨Ao51, co51, eo51⟩ := Kd.N_slice HO219.out
      (first | subst eo51 | (injection eo51 with f1_ f2_ f3_; have f4_ := f1_.symm; have f5_ := f3_.symm; clear f1_ f2_ f3_; subst f4_; subst f5_))
      refine goes_ Try.func16 (by kernel_rfl) rfl #[.slice Ao51 y217.length co51, .int .i64 0] (wanted_on rfl rfl rfl (e21.trans (by first | rfl | (simp [*]; done)))) rfl rfl (by first | (simp only [List.map_toArray, List.map_cons, List.map_nil, Act.eval, Array.getD_eq_getD_getElem?, Option.getD_some, e24, e21]; done) | (simp only [List.map_toArray, List.map_cons, List.map_nil, Act.eval, Array.getD_eq_getD_getElem?, Option.getD_some, e24, e21]; rfl)) ?_
      with_reducible refine (generalize_Lines.calls k (fun k_ => True) _ _ y217 0 t220 _ ?side1 A5.out).mono ?_
      (case side1 => exact Kd.N_V (HO219.out))
      rintro e w52 ⟨v221, rfl, ho0, hb⟩
      refine ⟨_, rfl, ?_⟩
      have n0_ := aM (rB (rl HO185) hb)
      have n1_ := aM (rB (rl HO188) hb)
      have n2_ := aM (rB (rl HO191) hb)
      have n3_ := aM (rB (rl HO194) hb)
      have n4_ := aM (rB (rl HO197) hb)
      have n5_ := aM (rB (rl HO202) hb)
      have n6_ := aM (rB (rl HO205) hb)
      have n7_ := aM (Kd.N_below (by (with_reducible repeat (first | apply Kd.N_alloc | apply Kd.N_drewN | apply Kd.N_drew)); exact HO209.out) hb)
      have n8_ := aM (Kd.N_below (by (with_reducible repeat (first | apply Kd.N_alloc | apply Kd.N_drewN | apply Kd.N_drew)); exact HO212.out) hb)
      have n9_ := aM (Kd.N_below (by (with_reducible repeat (first | apply Kd.N_alloc | apply Kd.N_drewN | apply Kd.N_drew)); exact HO215.out) hb)
      have n10_ := aM (Kd.N_below (by (with_reducible repeat (first | apply Kd.N_alloc | apply Kd.N_drewN | apply Kd.N_drew)); exact HO219.out) hb)
      have n11_ := aM (Kd.N_lower (Kd.N_mono (ok' := fun k_ => True) ho0 (fun k_ hk_ => trivial)) (below_size (bl)))
      have n12_ := aM (kB (g := gb198) (o := .cells #[.int .i64 t182, .slice Ao23 t183.length co23, .slice Ao24 t186.length co24, .slice Ao25 t189.length co25] 31 (0, 0)) (kl BK198) hb)
      have n13_ := aM (kB (g := gb199) (o := .cells #[.int .i64 2, .slice Ao18 y192.length co18, .slice Ao17 y195.length co17, .slice none 0 0] 31 (0, 0)) (kl BK199) hb)
      have n14_ := aM (kB (g := gb206) (o := .cells #[.int .i64 1, .slice Ao32 y200.length co32, .slice Ao31 y203.length co31, .slice none 0 0] 31 (0, 0)) (kl BK206) hb)
      have n15_ := aM (bS (bl) hb)
      have z_HO225 := fun (h0_ : b 13 = true) => (show Kd.N k31 31 w52 w.heap.size (fun _ => True) v224 y223 from by first | exact (Kd.N_below (by (with_reducible repeat (first | apply Kd.N_alloc | apply Kd.N_drewN | apply Kd.N_drew)); exact (Q_HO225 h0_)) hb) | exact Kd.N_mono (Kd.N_below (by (with_reducible repeat (first | apply Kd.N_alloc | apply Kd.N_drewN | apply Kd.N_drew)); exact (Q_HO225 h0_)) hb) (fun _ h_ => by first | trivial | exact h_ | exact h_.1))
      clear HO185 HO188 HO191 HO194 HO197 HO202 HO205 HO209 HO212 HO215 HO219 BK198 BK199 BK206 HB
      have HO185 := n0_
      have HO188 := n1_
      have HO191 := n2_
      have HO194 := n3_
      have HO197 := n4_
      have HO202 := n5_
      have HO205 := n6_
      have HO209 := n7_
      have HO212 := n8_
      have HO215 := n9_
      have HO219 := n10_
      have HO222 := n11_
      have BK198 := n12_
      have BK199 := n13_
      have BK206 := n14_
      have HB := n15_
      clear n0_ n1_ n2_ n3_ n4_ n5_ n6_ n7_ n8_ n9_ n10_ n11_ n12_ n13_ n14_ n15_
      (try clear hb)
      (try clear hb2)
      (try clear hk)
      (try clear hi)
      (try clear ho0)
      refine hK.out _ _ ⟨v208, v211, v214, .slice Ao51 y217.length co51, v221, v224, v228, v232, v235, v238, v242, v245, m20_, (by rw [ha.out]; exact putSel_upk 10 hb_ rfl rfl rfl), (rl HO185), (rl HO188), (rl HO191), (rl HO194), (rl HO197), (rl HO202), (rl HO205), (kl BK198), (kl BK199), (kl BK206), (bl), fun _ => (by (with_reducible repeat (first | apply Kd.N_alloc | apply Kd.N_drewN | apply Kd.N_drew)); exact HO209.out), fun _ => (by (with_reducible repeat (first | apply Kd.N_alloc | apply Kd.N_drewN | apply Kd.N_drew)); exact HO212.out), fun _ => (by (with_reducible repeat (first | apply Kd.N_alloc | apply Kd.N_drewN | apply Kd.N_drew)); exact HO215.out), fun _ => (by (with_reducible repeat (first | apply Kd.N_alloc | apply Kd.N_drewN | apply Kd.N_drew)); exact HO219.out), fun _ => (by (with_reducible repeat (first | apply Kd.N_alloc | apply Kd.N_drewN | apply Kd.N_drew)); exact HO222.out), z_HO225, fun h0_ => absurd ((hoff 19 (by kernel_rfl)).symm.trans h0_) (by decide), fun h0_ => absurd ((hoff 20 (by kernel_rfl)).symm.trans h0_) (by decide), fun h0_ => absurd ((hoff 20 (by kernel_rfl)).symm.trans h0_) (by decide), fun h0_ => absurd ((hoff 20 (by kernel_rfl)).symm.trans h0_) (by decide), fun h0_ => absurd ((hoff 27 (by kernel_rfl)).symm.trans h0_) (by decide), fun h0_ => absurd ((hoff 28 (by kernel_rfl)).symm.trans h0_) (by decide), fun h0_ => absurd ((hoff 20 (by kernel_rfl)).symm.trans h0_) (by decide)⟩
     refine steps_cons ?_ ?_
     ·rintro b a w' ⟨v208, v211, v214, v218, v221, v224, v228, v232, v235, v238, v242, v245, m20_, ha, Q_HO185, Q_HO188, Q_HO191, Q_HO194, Q_HO197, Q_HO202, Q_HO205, Q_BK198, Q_BK199, Q_BK206, Q_HB, Q_HO209, Q_HO212, Q_HO215, Q_HO219, Q_HO222, Q_HO225, Q_HO229, Q_HO233, Q_HO236, Q_HO239, Q_HO243, Q_HO246, Q_X20_⟩ hb_ hon hoff
      refine ⟨_, rfl, fun K hK => ?_⟩
      have e1 : a.tmps[1]? = some (.pointer (some ⟨gb198, 0, none⟩)) := by rw [ha]; exact (putSel_off rfl).trans rfl
      have e21 : a.tmps[21]? = some (.bool true) := by rw [ha]; exact putSel_on (e := (6, 21, .bool true)) 6 rfl rfl (hon 6 (by kernel_rfl)) rfl
      replace ha := aM ha
      have HO185 := aM Q_HO185
      have HO188 := aM Q_HO188
      have HO191 := aM Q_HO191
      have HO194 := aM Q_HO194
      have HO197 := aM Q_HO197
      have HO202 := aM Q_HO202
      have HO205 := aM Q_HO205
      have BK198 := aM Q_BK198
      have BK199 := aM Q_BK199
      have BK206 := aM Q_BK206
      have HB := aM Q_HB
      have HO209 := aM (Q_HO209 (hon 1 (by kernel_rfl)))
      have HO212 := aM (Q_HO212 (hon 2 (by kernel_rfl)))
      have HO215 := aM (Q_HO215 (hon 4 (by kernel_rfl)))
      have hc0_ : w'.cell? ⟨gb198, 0, none⟩ = some (.int .i64 t182) := (kC BK198.out 0).trans rfl
      have hc1_ : w'.cell? ⟨gb198, 1, none⟩ = some (.slice Ao23 t183.length co23) := (kC BK198.out 1).trans rfl
      have hc2_ : w'.cell? ⟨gb198, 2, none⟩ = some (.slice Ao24 t186.length co24) := (kC BK198.out 2).trans rfl
      have hc3_ : w'.cell? ⟨gb198, 3, none⟩ = some (.slice Ao25 t189.length co25) := (kC BK198.out 3).trans rfl
      refine value_ (w1 := w') (v := .agg #[.int .i64 t182, .slice Ao23 t183.length co23, .slice Ao24 t186.length co24, .slice Ao25 t189.length co25]) (wanted_on rfl rfl rfl (e21.trans (by first | rfl | (simp [*]; done)))) rfl ?_ ?_
      ·go_simp
       (try simp only [i64_w])
       try rfl
      refine hK.out _ _ ⟨v208, v211, v214, v218, v221, v224, v228, v232, v235, v238, v242, v245, m20_, (by rw [ha.out]; exact putSel_upk 11 hb_ rfl rfl rfl), Q_HO185, Q_HO188, Q_HO191, Q_HO194, Q_HO197, Q_HO202, Q_HO205, Q_BK198, Q_BK199, Q_BK206, Q_HB, Q_HO209, Q_HO212, Q_HO215, Q_HO219, Q_HO222, fun h0_ => absurd ((hoff 13 (by kernel_rfl)).symm.trans h0_) (by decide), fun h0_ => absurd ((hoff 19 (by kernel_rfl)).symm.trans h0_) (by decide), fun h0_ => absurd ((hoff 20 (by kernel_rfl)).symm.trans h0_) (by decide), fun h0_ => absurd ((hoff 20 (by kernel_rfl)).symm.trans h0_) (by decide), fun h0_ => absurd ((hoff 20 (by kernel_rfl)).symm.trans h0_) (by decide), fun h0_ => absurd ((hoff 27 (by kernel_rfl)).symm.trans h0_) (by decide), fun h0_ => absurd ((hoff 28 (by kernel_rfl)).symm.trans h0_) (by decide), fun h0_ => absurd ((hoff 20 (by kernel_rfl)).symm.trans h0_) (by decide)⟩
     refine steps_cons ?_ ?_
     ·rintro b a w' ⟨v208, v211, v214, v218, v221, v224, v228, v232, v235, v238, v242, v245, m20_, ha, Q_HO185, Q_HO188, Q_HO191, Q_HO194, Q_HO197, Q_HO202, Q_HO205, Q_BK198, Q_BK199, Q_BK206, Q_HB, Q_HO209, Q_HO212, Q_HO215, Q_HO219, Q_HO222, Q_HO225, Q_HO229, Q_HO233, Q_HO236, Q_HO239, Q_HO243, Q_HO246, Q_X20_⟩ hb_ hon hoff
      refine ⟨_, rfl, fun K hK => ?_⟩
      have e2 : a.tmps[2]? = some (.pointer (some ⟨gb199, 0, none⟩)) := by rw [ha]; exact (putSel_off rfl).trans rfl
      have e21 : a.tmps[21]? = some (.bool true) := by rw [ha]; exact putSel_on (e := (6, 21, .bool true)) 6 rfl rfl (hon 6 (by kernel_rfl)) rfl
      replace ha := aM ha
      have HO185 := aM Q_HO185
      have HO188 := aM Q_HO188
      have HO191 := aM Q_HO191
      have HO194 := aM Q_HO194
      have HO197 := aM Q_HO197
      have HO202 := aM Q_HO202
      have HO205 := aM Q_HO205
      have BK198 := aM Q_BK198
      have BK199 := aM Q_BK199
      have BK206 := aM Q_BK206
      have HB := aM Q_HB
      have HO209 := aM (Q_HO209 (hon 1 (by kernel_rfl)))
      have HO212 := aM (Q_HO212 (hon 2 (by kernel_rfl)))
      have HO215 := aM (Q_HO215 (hon 4 (by kernel_rfl)))
      have hc0_ : w'.cell? ⟨gb199, 0, none⟩ = some (.int .i64 2) := (kC BK199.out 0).trans rfl
      have hc1_ : w'.cell? ⟨gb199, 1, none⟩ = some (.slice Ao18 y192.length co18) := (kC BK199.out 1).trans rfl
      have hc2_ : w'.cell? ⟨gb199, 2, none⟩ = some (.slice Ao17 y195.length co17) := (kC BK199.out 2).trans rfl
      have hc3_ : w'.cell? ⟨gb199, 3, none⟩ = some (.slice none 0 0) := (kC BK199.out 3).trans rfl
      refine value_ (w1 := w') (v := .agg #[.int .i64 2, .slice Ao18 y192.length co18, .slice Ao17 y195.length co17, .slice none 0 0]) (wanted_on rfl rfl rfl (e21.trans (by first | rfl | (simp [*]; done)))) rfl ?_ ?_
      ·go_simp
       (try simp only [i64_w])
       try rfl
      refine hK.out _ _ ⟨v208, v211, v214, v218, v221, v224, v228, v232, v235, v238, v242, v245, m20_, (by rw [ha.out]; exact putSel_upk 12 hb_ rfl rfl rfl), Q_HO185, Q_HO188, Q_HO191, Q_HO194, Q_HO197, Q_HO202, Q_HO205, Q_BK198, Q_BK199, Q_BK206, Q_HB, Q_HO209, Q_HO212, Q_HO215, Q_HO219, Q_HO222, fun h0_ => absurd ((hoff 13 (by kernel_rfl)).symm.trans h0_) (by decide), fun h0_ => absurd ((hoff 19 (by kernel_rfl)).symm.trans h0_) (by decide), fun h0_ => absurd ((hoff 20 (by kernel_rfl)).symm.trans h0_) (by decide), fun h0_ => absurd ((hoff 20 (by kernel_rfl)).symm.trans h0_) (by decide), fun h0_ => absurd ((hoff 20 (by kernel_rfl)).symm.trans h0_) (by decide), fun h0_ => absurd ((hoff 27 (by kernel_rfl)).symm.trans h0_) (by decide), fun h0_ => absurd ((hoff 28 (by kernel_rfl)).symm.trans h0_) (by decide), fun h0_ => absurd ((hoff 20 (by kernel_rfl)).symm.trans h0_) (by decide)⟩
     refine steps_cons ?_ ?_
     ·rintro b a w' ⟨v208, v211, v214, v218, v221, v224, v228, v232, v235, v238, v242, v245, m20_, ha, Q_HO185, Q_HO188, Q_HO191, Q_HO194, Q_HO197, Q_HO202, Q_HO205, Q_BK198, Q_BK199, Q_BK206, Q_HB, Q_HO209, Q_HO212, Q_HO215, Q_HO219, Q_HO222, Q_HO225, Q_HO229, Q_HO233, Q_HO236, Q_HO239, Q_HO243, Q_HO246, Q_X20_⟩ hb_ hon hoff
      refine ⟨_, rfl, fun K hK => ?_⟩
      have e26 : a.tmps[26]? = some (.agg #[.int .i64 t182, .slice Ao23 t183.length co23, .slice Ao24 t186.length co24, .slice Ao25 t189.length co25]) := by rw [ha]; exact putSel_on (e := (11, 26, .agg #[.int .i64 t182, .slice Ao23 t183.length co23, .slice Ao24 t186.length co24, .slice Ao25 t189.length co25])) 11 rfl rfl (hon 11 (by kernel_rfl)) rfl
      have e27 : a.tmps[27]? = some (.agg #[.int .i64 2, .slice Ao18 y192.length co18, .slice Ao17 y195.length co17, .slice none 0 0]) := by rw [ha]; exact putSel_on (e := (12, 27, .agg #[.int .i64 2, .slice Ao18 y192.length co18, .slice Ao17 y195.length co17, .slice none 0 0])) 12 rfl rfl (hon 12 (by kernel_rfl)) rfl
      have e21 : a.tmps[21]? = some (.bool true) := by rw [ha]; exact putSel_on (e := (6, 21, .bool true)) 6 rfl rfl (hon 6 (by kernel_rfl)) rfl
      replace ha := aM ha
      have HO185 := aM Q_HO185
      have HO188 := aM Q_HO188
      have HO191 := aM Q_HO191
      have HO194 := aM Q_HO194
      have HO197 := aM Q_HO197
      have HO202 := aM Q_HO202
      have HO205 := aM Q_HO205
      have BK198 := aM Q_BK198
      have BK199 := aM Q_BK199
      have BK206 := aM Q_BK206
      have HB := aM Q_HB
      have HO209 := aM (Q_HO209 (hon 1 (by kernel_rfl)))
      have HO212 := aM (Q_HO212 (hon 2 (by kernel_rfl)))
      have HO215 := aM (Q_HO215 (hon 4 (by kernel_rfl)))
      refine Kd.N_lit_step k31 _ 31 ?hg (N' := 28) ?hd (xs := ([(⟨t182, t183, t186, t189⟩ : S31), (⟨2, y192, y195, ([] : List (S80))⟩ : S31)] : List (S31))) (inner := [.int .i64 t182, .slice Ao23 t183.length co23, .slice Ao24 t186.length co24, .slice Ao25 t189.length co25, .int .i64 2, .slice Ao18 y192.length co18, .slice Ao17 y195.length co17, .slice none 0 0]) (ok := (fun _ => True)) (okp := (fun _ => True)) ?hr ?hp (fun _ hk => hk) ((show ∀ k_, w'.heap.size ≤ k_ → (fun _ => True) k_ from fun k_ hk => trivial) _ (Nat.le_refl _)) (Below.refl _ _) (Nat.le_refl _) (by simp) ?_; (case hd => rfl); (case hg => exact (wanted_on rfl rfl rfl (e21.trans (by first | rfl | (simp [*]; done))))); (case hr => first | (go_simp; done) | (go_simp; rfl)); (case hp => exact (Reps.c4 (show Kd.FK k31 _ _ (⟨t182, t183, t186, t189⟩ : S31) [.int .i64 t182, .slice Ao23 t183.length co23, .slice Ao24 t186.length co24, .slice Ao25 t189.length co25] from (k31_mkF _ _ (⟨t182, t183, t186, t189⟩ : S31) (rR (rM (ok' := (fun _ => True)) (HO185.out) (fun k_ hk => trivial))).2.1 (Kd.R_F (rM (ok' := (fun _ => True)) (HO185.out) (fun k_ hk => trivial))) (rR (rM (ok' := (fun _ => True)) (HO188.out) (fun k_ hk => trivial))).2.1 (Kd.R_F (rM (ok' := (fun _ => True)) (HO188.out) (fun k_ hk => trivial))) (rR (rM (ok' := (fun _ => True)) (HO191.out) (fun k_ hk => trivial))).2.1 (Kd.R_F (rM (ok' := (fun _ => True)) (HO191.out) (fun k_ hk => trivial))))) (Reps.c4 (show Kd.FK k31 _ _ (⟨2, y192, y195, ([] : List (S80))⟩ : S31) [.int .i64 2, .slice Ao18 y192.length co18, .slice Ao17 y195.length co17, .slice none 0 0] from (k31_mkF _ _ (⟨2, y192, y195, ([] : List (S80))⟩ : S31) (rR (rM (ok' := (fun _ => True)) (HO194.out) (fun k_ hk => trivial))).2.1 (Kd.R_F (rM (ok' := (fun _ => True)) (HO194.out) (fun k_ hk => trivial))) (rR (rM (ok' := (fun _ => True)) (HO197.out) (fun k_ hk => trivial))).2.1 (Kd.R_F (rM (ok' := (fun _ => True)) (HO197.out) (fun k_ hk => trivial))) (Nat.le_refl _) (Kd.F_nil _ _ _))) (Reps.none _ _))))
      intro v224 w49 ho50 hb hg_ hnew_
      clear hg_ hnew_
      (first | rw [← Ny223.out] at ho50 | (simp only [Int.reduceToNat] at ho50; rw [← Ny223.out] at ho50))
      have n0_ := aM (rB (rl HO185) hb)
      have n1_ := aM (rB (rl HO188) hb)
      have n2_ := aM (rB (rl HO191) hb)
      have n3_ := aM (rB (rl HO194) hb)
      have n4_ := aM (rB (rl HO197) hb)
      have n5_ := aM (rB (rl HO202) hb)
      have n6_ := aM (rB (rl HO205) hb)
      have n7_ := aM (Kd.N_below (by (with_reducible repeat (first | apply Kd.N_alloc | apply Kd.N_drewN | apply Kd.N_drew)); exact HO209.out) hb)
      have n8_ := aM (Kd.N_below (by (with_reducible repeat (first | apply Kd.N_alloc | apply Kd.N_drewN | apply Kd.N_drew)); exact HO212.out) hb)
      have n9_ := aM (Kd.N_below (by (with_reducible repeat (first | apply Kd.N_alloc | apply Kd.N_drewN | apply Kd.N_drew)); exact HO215.out) hb)
      have n10_ := aM (Kd.N_lower ho50 (below_size (bl)))
      have n11_ := aM (kB (g := gb198) (o := .cells #[.int .i64 t182, .slice Ao23 t183.length co23, .slice Ao24 t186.length co24, .slice Ao25 t189.length co25] 31 (0, 0)) (kl BK198) hb)
      have n12_ := aM (kB (g := gb199) (o := .cells #[.int .i64 2, .slice Ao18 y192.length co18, .slice Ao17 y195.length co17, .slice none 0 0] 31 (0, 0)) (kl BK199) hb)
      have n13_ := aM (kB (g := gb206) (o := .cells #[.int .i64 1, .slice Ao32 y200.length co32, .slice Ao31 y203.length co31, .slice none 0 0] 31 (0, 0)) (kl BK206) hb)
      have n14_ := aM (bS (bl) hb)
      have z_HO219 := fun (h0_ : b 9 = true) => (show Kd.N k31 31 w49 w.heap.size (fun _ => True) v218 y217 from by first | exact (Kd.N_below (by (with_reducible repeat (first | apply Kd.N_alloc | apply Kd.N_drewN | apply Kd.N_drew)); exact (Q_HO219 h0_)) hb) | exact Kd.N_mono (Kd.N_below (by (with_reducible repeat (first | apply Kd.N_alloc | apply Kd.N_drewN | apply Kd.N_drew)); exact (Q_HO219 h0_)) hb) (fun _ h_ => by first | trivial | exact h_ | exact h_.1))
      have z_HO222 := fun (h0_ : b 10 = true) => (show Kd.N k31 31 w49 w.heap.size (fun _ => True) v221 t220 from by first | exact (Kd.N_below (by (with_reducible repeat (first | apply Kd.N_alloc | apply Kd.N_drewN | apply Kd.N_drew)); exact (Q_HO222 h0_)) hb) | exact Kd.N_mono (Kd.N_below (by (with_reducible repeat (first | apply Kd.N_alloc | apply Kd.N_drewN | apply Kd.N_drew)); exact (Q_HO222 h0_)) hb) (fun _ h_ => by first | trivial | exact h_ | exact h_.1))
      clear HO185 HO188 HO191 HO194 HO197 HO202 HO205 HO209 HO212 HO215 BK198 BK199 BK206 HB
      have HO185 := n0_
      have HO188 := n1_
      have HO191 := n2_
      have HO194 := n3_
      have HO197 := n4_
      have HO202 := n5_
      have HO205 := n6_
      have HO209 := n7_
      have HO212 := n8_
      have HO215 := n9_
      have HO225 := n10_
      have BK198 := n11_
      have BK199 := n12_
      have BK206 := n13_
      have HB := n14_
      clear n0_ n1_ n2_ n3_ n4_ n5_ n6_ n7_ n8_ n9_ n10_ n11_ n12_ n13_ n14_ hb ho50
      refine hK.out _ _ ⟨v208, v211, v214, v218, v221, v224, v228, v232, v235, v238, v242, v245, m20_, (by rw [ha.out]; exact putSel_upk 13 hb_ rfl rfl rfl), (rl HO185), (rl HO188), (rl HO191), (rl HO194), (rl HO197), (rl HO202), (rl HO205), (kl BK198), (kl BK199), (kl BK206), (bl), fun _ => (by (with_reducible repeat (first | apply Kd.N_alloc | apply Kd.N_drewN | apply Kd.N_drew)); exact HO209.out), fun _ => (by (with_reducible repeat (first | apply Kd.N_alloc | apply Kd.N_drewN | apply Kd.N_drew)); exact HO212.out), fun _ => (by (with_reducible repeat (first | apply Kd.N_alloc | apply Kd.N_drewN | apply Kd.N_drew)); exact HO215.out), z_HO219, z_HO222, fun _ => (by (with_reducible repeat (first | apply Kd.N_alloc | apply Kd.N_drewN | apply Kd.N_drew)); exact HO225.out), fun h0_ => absurd ((hoff 19 (by kernel_rfl)).symm.trans h0_) (by decide), fun h0_ => absurd ((hoff 20 (by kernel_rfl)).symm.trans h0_) (by decide), fun h0_ => absurd ((hoff 20 (by kernel_rfl)).symm.trans h0_) (by decide), fun h0_ => absurd ((hoff 20 (by kernel_rfl)).symm.trans h0_) (by decide), fun h0_ => absurd ((hoff 27 (by kernel_rfl)).symm.trans h0_) (by decide), fun h0_ => absurd ((hoff 28 (by kernel_rfl)).symm.trans h0_) (by decide), fun h0_ => absurd ((hoff 20 (by kernel_rfl)).symm.trans h0_) (by decide)⟩
     refine steps_cons ?_ ?_
     ·rintro b a w' ⟨v208, v211, v214, v218, v221, v224, v228, v232, v235, v238, v242, v245, m20_, ha, Q_HO185, Q_HO188, Q_HO191, Q_HO194, Q_HO197, Q_HO202, Q_HO205, Q_BK198, Q_BK199, Q_BK206, Q_HB, Q_HO209, Q_HO212, Q_HO215, Q_HO219, Q_HO222, Q_HO225, Q_HO229, Q_HO233, Q_HO236, Q_HO239, Q_HO243, Q_HO246, Q_X20_⟩ hb_ hon hoff
      refine ⟨_, rfl, fun K hK => ?_⟩
      have e25 : a.tmps[25]? = some (v221) := by rw [ha]; exact putSel_on (e := (10, 25, v221)) 10 rfl rfl (hon 10 (by kernel_rfl)) rfl
      have e28 : a.tmps[28]? = some (v224) := by rw [ha]; exact putSel_on (e := (13, 28, v224)) 13 rfl rfl (hon 13 (by kernel_rfl)) rfl
      have e21 : a.tmps[21]? = some (.bool true) := by rw [ha]; exact putSel_on (e := (6, 21, .bool true)) 6 rfl rfl (hon 6 (by kernel_rfl)) rfl
      replace ha := aM ha
      have HO185 := aM Q_HO185
      have HO188 := aM Q_HO188
      have HO191 := aM Q_HO191
      have HO194 := aM Q_HO194
      have HO197 := aM Q_HO197
      have HO202 := aM Q_HO202
      have HO205 := aM Q_HO205
      have BK198 := aM Q_BK198
      have BK199 := aM Q_BK199
      have BK206 := aM Q_BK206
      have HB := aM Q_HB
      have HO209 := aM (Q_HO209 (hon 1 (by kernel_rfl)))
      have HO212 := aM (Q_HO212 (hon 2 (by kernel_rfl)))
      have HO215 := aM (Q_HO215 (hon 4 (by kernel_rfl)))
      have HO219 := aM (Q_HO219 (hon 9 (by kernel_rfl)))
      have HO222 := aM (Q_HO222 (hon 10 (by kernel_rfl)))
      have HO225 := aM (Q_HO225 (hon 13 (by kernel_rfl)))
      obtain ⟨Ao55, co55, eo55⟩ := Kd.N_slice HO222.out
      (first | subst eo55 | (injection eo55 with f1_ f2_ f3_; have f4_ := f1_.symm; have f5_ := f3_.symm; clear f1_ f2_ f3_; subst f4_; subst f5_))
      obtain ⟨Ao56, co56, eo56⟩ := Kd.N_slice HO225.out
      (first | subst eo56 | (injection eo56 with f1_ f2_ f3_; have f4_ := f1_.symm; have f5_ := f3_.symm; clear f1_ f2_ f3_; subst f4_; subst f5_))
      refine goes_ Try.func15 (by kernel_rfl) rfl #[.slice Ao55 t220.length co55, .slice Ao56 y223.length co56] (wanted_on rfl rfl rfl (e21.trans (by first | rfl | (simp [*]; done)))) rfl rfl (by first | (simp only [List.map_toArray, List.map_cons, List.map_nil, Act.eval, Array.getD_eq_getD_getElem?, Option.getD_some, e25, e28, e21]; done) | (simp only [List.map_toArray, List.map_cons, List.map_nil, Act.eval, Array.getD_eq_getD_getElem?, Option.getD_some, e25, e28, e21]; rfl)) ?_
      with_reducible refine (mapmakerlaw26_all.calls k _ _ t220 _ _ y223 true _ ?side1 ?side2 ?side3 ?side4 A6.out).mono ?_
      (case side1 => repeat (first | exact (Kd.N_reads' HO222.out).2.2 | (with_reducible refine cA ?_ _) | (with_reducible refine cN ?_ _) | (with_reducible refine cD ?_)))
      (case side2 => exact (Kd.N_reads' HO222.out).2.1)
      (case side3 => repeat (first | exact (Kd.N_reads' HO225.out).2.2 | (with_reducible refine cA ?_ _) | (with_reducible refine cN ?_ _) | (with_reducible refine cD ?_)))
      (case side4 => exact (Kd.N_reads' HO225.out).2.1)
      rintro e w57 ⟨rfl, hb⟩
      refine ⟨_, rfl, ?_⟩
      replace HO185 := aM (rB (rl HO185) hb)
      replace HO188 := aM (rB (rl HO188) hb)
      replace HO191 := aM (rB (rl HO191) hb)
      replace HO194 := aM (rB (rl HO194) hb)
      replace HO197 := aM (rB (rl HO197) hb)
      replace HO202 := aM (rB (rl HO202) hb)
      replace HO205 := aM (rB (rl HO205) hb)
      replace HO209 := aM (Kd.N_below (by (with_reducible repeat (first | apply Kd.N_alloc | apply Kd.N_drewN | apply Kd.N_drew)); exact HO209.out) hb)
      replace HO212 := aM (Kd.N_below (by (with_reducible repeat (first | apply Kd.N_alloc | apply Kd.N_drewN | apply Kd.N_drew)); exact HO212.out) hb)
      replace HO215 := aM (Kd.N_below (by (with_reducible repeat (first | apply Kd.N_alloc | apply Kd.N_drewN | apply Kd.N_drew)); exact HO215.out) hb)
      replace HO219 := aM (Kd.N_below (by (with_reducible repeat (first | apply Kd.N_alloc | apply Kd.N_drewN | apply Kd.N_drew)); exact HO219.out) hb)
      replace HO222 := aM (Kd.N_below (by (with_reducible repeat (first | apply Kd.N_alloc | apply Kd.N_drewN | apply Kd.N_drew)); exact HO222.out) hb)
      replace HO225 := aM (Kd.N_below (by (with_reducible repeat (first | apply Kd.N_alloc | apply Kd.N_drewN | apply Kd.N_drew)); exact HO225.out) hb)
      replace BK198 := aM (kB (g := gb198) (o := .cells #[.int .i64 t182, .slice Ao23 t183.length co23, .slice Ao24 t186.length co24, .slice Ao25 t189.length co25] 31 (0, 0)) (kl BK198) hb)
      replace BK199 := aM (kB (g := gb199) (o := .cells #[.int .i64 2, .slice Ao18 y192.length co18, .slice Ao17 y195.length co17, .slice none 0 0] 31 (0, 0)) (kl BK199) hb)
      replace BK206 := aM (kB (g := gb206) (o := .cells #[.int .i64 1, .slice Ao32 y200.length co32, .slice Ao31 y203.length co31, .slice none 0 0] 31 (0, 0)) (kl BK206) hb)
      replace HB := aM (bS (bl) hb)
      (try clear hb)
      (try clear hb2)
      (try clear hk)
      (try clear hi)
      refine hK.out _ _ ⟨v208, v211, v214, v218, .slice Ao55 t220.length co55, .slice Ao56 y223.length co56, v228, v232, v235, v238, v242, v245, m20_, (by rw [ha.out]; exact putSel_upk 14 hb_ rfl rfl rfl), (rl HO185), (rl HO188), (rl HO191), (rl HO194), (rl HO197), (rl HO202), (rl HO205), (kl BK198), (kl BK199), (kl BK206), (bl), fun _ => (by (with_reducible repeat (first | apply Kd.N_alloc | apply Kd.N_drewN | apply Kd.N_drew)); exact HO209.out), fun _ => (by (with_reducible repeat (first | apply Kd.N_alloc | apply Kd.N_drewN | apply Kd.N_drew)); exact HO212.out), fun _ => (by (with_reducible repeat (first | apply Kd.N_alloc | apply Kd.N_drewN | apply Kd.N_drew)); exact HO215.out), fun _ => (by (with_reducible repeat (first | apply Kd.N_alloc | apply Kd.N_drewN | apply Kd.N_drew)); exact HO219.out), fun _ => (by (with_reducible repeat (first | apply Kd.N_alloc | apply Kd.N_drewN | apply Kd.N_drew)); exact HO222.out), fun _ => (by (with_reducible repeat (first | apply Kd.N_alloc | apply Kd.N_drewN | apply Kd.N_drew)); exact HO225.out), fun h0_ => absurd ((hoff 19 (by kernel_rfl)).symm.trans h0_) (by decide), fun h0_ => absurd ((hoff 20 (by kernel_rfl)).symm.trans h0_) (by decide), fun h0_ => absurd ((hoff 20 (by kernel_rfl)).symm.trans h0_) (by decide), fun h0_ => absurd ((hoff 20 (by kernel_rfl)).symm.trans h0_) (by decide), fun h0_ => absurd ((hoff 27 (by kernel_rfl)).symm.trans h0_) (by decide), fun h0_ => absurd ((hoff 28 (by kernel_rfl)).symm.trans h0_) (by decide), fun h0_ => absurd ((hoff 20 (by kernel_rfl)).symm.trans h0_) (by decide)⟩
     refine steps_cons ?_ ?_
     ·rintro b a w' ⟨v208, v211, v214, v218, v221, v224, v228, v232, v235, v238, v242, v245, m20_, ha, Q_HO185, Q_HO188, Q_HO191, Q_HO194, Q_HO197, Q_HO202, Q_HO205, Q_BK198, Q_BK199, Q_BK206, Q_HB, Q_HO209, Q_HO212, Q_HO215, Q_HO219, Q_HO222, Q_HO225, Q_HO229, Q_HO233, Q_HO236, Q_HO239, Q_HO243, Q_HO246, Q_X20_⟩ hb_ hon hoff
      refine ⟨_, rfl, fun K hK => ?_⟩
      have e21 : a.tmps[21]? = some (.bool true) := by rw [ha]; exact putSel_on (e := (6, 21, .bool true)) 6 rfl rfl (hon 6 (by kernel_rfl)) rfl
      have e29 : a.tmps[29]? = some (.bool true) := by rw [ha]; exact putSel_on (e := (14, 29, .bool true)) 14 rfl rfl (hon 14 (by kernel_rfl)) rfl
      replace ha := aM ha
      have HO185 := aM Q_HO185
      have HO188 := aM Q_HO188
      have HO191 := aM Q_HO191
      have HO194 := aM Q_HO194
      have HO197 := aM Q_HO197
      have HO202 := aM Q_HO202
      have HO205 := aM Q_HO205
      have BK198 := aM Q_BK198
      have BK199 := aM Q_BK199
      have BK206 := aM Q_BK206
      have HB := aM Q_HB
      have HO209 := aM (Q_HO209 (hon 1 (by kernel_rfl)))
      have HO212 := aM (Q_HO212 (hon 2 (by kernel_rfl)))
      have HO215 := aM (Q_HO215 (hon 4 (by kernel_rfl)))
      have HO219 := aM (Q_HO219 (hon 9 (by kernel_rfl)))
      have HO222 := aM (Q_HO222 (hon 10 (by kernel_rfl)))
      have HO225 := aM (Q_HO225 (hon 13 (by kernel_rfl)))
      refine value_ (w1 := w') (v := .bool true) (by rfl) rfl ?_ ?_
      ·go_simp
       (try simp only [i64_w])
       try rfl
      refine hK.out _ _ ⟨v208, v211, v214, v218, v221, v224, v228, v232, v235, v238, v242, v245, m20_, (by rw [ha.out]; exact putSel_upk 15 hb_ rfl rfl rfl), Q_HO185, Q_HO188, Q_HO191, Q_HO194, Q_HO197, Q_HO202, Q_HO205, Q_BK198, Q_BK199, Q_BK206, Q_HB, Q_HO209, Q_HO212, Q_HO215, Q_HO219, Q_HO222, Q_HO225, fun h0_ => absurd ((hoff 19 (by kernel_rfl)).symm.trans h0_) (by decide), fun h0_ => absurd ((hoff 20 (by kernel_rfl)).symm.trans h0_) (by decide), fun h0_ => absurd ((hoff 20 (by kernel_rfl)).symm.trans h0_) (by decide), fun h0_ => absurd ((hoff 20 (by kernel_rfl)).symm.trans h0_) (by decide), fun h0_ => absurd ((hoff 27 (by kernel_rfl)).symm.trans h0_) (by decide), fun h0_ => absurd ((hoff 28 (by kernel_rfl)).symm.trans h0_) (by decide), fun h0_ => absurd ((hoff 20 (by kernel_rfl)).symm.trans h0_) (by decide)⟩
     refine steps_cons ?_ ?_
     ·rintro b a w' ⟨v208, v211, v214, v218, v221, v224, v228, v232, v235, v238, v242, v245, m20_, ha, Q_HO185, Q_HO188, Q_HO191, Q_HO194, Q_HO197, Q_HO202, Q_HO205, Q_BK198, Q_BK199, Q_BK206, Q_HB, Q_HO209, Q_HO212, Q_HO215, Q_HO219, Q_HO222, Q_HO225, Q_HO229, Q_HO233, Q_HO236, Q_HO239, Q_HO243, Q_HO246, Q_X20_⟩ hb_ hon hoff
      refine ⟨_, rfl, fun K hK => ?_⟩
      have e30 : a.tmps[30]? = some (.bool true) := by rw [ha]; exact putSel_on (e := (15, 30, .bool true)) 15 rfl rfl (hon 15 (by kernel_rfl)) rfl
      replace ha := aM ha
      have HO185 := aM Q_HO185
      have HO188 := aM Q_HO188
      have HO191 := aM Q_HO191
      have HO194 := aM Q_HO194
      have HO197 := aM Q_HO197
      have HO202 := aM Q_HO202
      have HO205 := aM Q_HO205
      have BK198 := aM Q_BK198
      have BK199 := aM Q_BK199
      have BK206 := aM Q_BK206
      have HB := aM Q_HB
      have HO209 := aM (Q_HO209 (hon 1 (by kernel_rfl)))
      have HO212 := aM (Q_HO212 (hon 2 (by kernel_rfl)))
      have HO215 := aM (Q_HO215 (hon 4 (by kernel_rfl)))
      have HO219 := aM (Q_HO219 (hon 9 (by kernel_rfl)))
      have HO222 := aM (Q_HO222 (hon 10 (by kernel_rfl)))
      have HO225 := aM (Q_HO225 (hon 13 (by kernel_rfl)))
      refine value_ (w1 := w') (v := .bool true) (by rfl) rfl ?_ ?_
      ·go_simp
       (try simp only [i64_w])
       try rfl
      refine hK.out _ _ ⟨v208, v211, v214, v218, v221, v224, v228, v232, v235, v238, v242, v245, m20_, (by rw [ha.out]; exact putSel_upk 16 hb_ rfl rfl rfl), Q_HO185, Q_HO188, Q_HO191, Q_HO194, Q_HO197, Q_HO202, Q_HO205, Q_BK198, Q_BK199, Q_BK206, Q_HB, Q_HO209, Q_HO212, Q_HO215, Q_HO219, Q_HO222, Q_HO225, fun h0_ => absurd ((hoff 19 (by kernel_rfl)).symm.trans h0_) (by decide), fun h0_ => absurd ((hoff 20 (by kernel_rfl)).symm.trans h0_) (by decide), fun h0_ => absurd ((hoff 20 (by kernel_rfl)).symm.trans h0_) (by decide), fun h0_ => absurd ((hoff 20 (by kernel_rfl)).symm.trans h0_) (by decide), fun h0_ => absurd ((hoff 27 (by kernel_rfl)).symm.trans h0_) (by decide), fun h0_ => absurd ((hoff 28 (by kernel_rfl)).symm.trans h0_) (by decide), fun h0_ => absurd ((hoff 20 (by kernel_rfl)).symm.trans h0_) (by decide)⟩
     refine steps_cons ?_ ?_
     ·rintro b a w' ⟨v208, v211, v214, v218, v221, v224, v228, v232, v235, v238, v242, v245, m20_, ha, Q_HO185, Q_HO188, Q_HO191, Q_HO194, Q_HO197, Q_HO202, Q_HO205, Q_BK198, Q_BK199, Q_BK206, Q_HB, Q_HO209, Q_HO212, Q_HO215, Q_HO219, Q_HO222, Q_HO225, Q_HO229, Q_HO233, Q_HO236, Q_HO239, Q_HO243, Q_HO246, Q_X20_⟩ hb_ hon hoff
      refine ⟨_, rfl, fun K hK => ?_⟩
      have e1 : a.tmps[1]? = some (.pointer (some ⟨gb198, 0, none⟩)) := by rw [ha]; exact (putSel_off rfl).trans rfl
      have e31 : a.tmps[31]? = some (.bool true) := by rw [ha]; exact putSel_on (e := (16, 31, .bool true)) 16 rfl rfl (hon 16 (by kernel_rfl)) rfl
      replace ha := aM ha
      have HO185 := aM Q_HO185
      have HO188 := aM Q_HO188
      have HO191 := aM Q_HO191
      have HO194 := aM Q_HO194
      have HO197 := aM Q_HO197
      have HO202 := aM Q_HO202
      have HO205 := aM Q_HO205
      have BK198 := aM Q_BK198
      have BK199 := aM Q_BK199
      have BK206 := aM Q_BK206
      have HB := aM Q_HB
      have HO209 := aM (Q_HO209 (hon 1 (by kernel_rfl)))
      have HO212 := aM (Q_HO212 (hon 2 (by kernel_rfl)))
      have HO215 := aM (Q_HO215 (hon 4 (by kernel_rfl)))
      have HO219 := aM (Q_HO219 (hon 9 (by kernel_rfl)))
      have HO222 := aM (Q_HO222 (hon 10 (by kernel_rfl)))
      have HO225 := aM (Q_HO225 (hon 13 (by kernel_rfl)))
      have hc0_ : w'.cell? ⟨gb198, 0, none⟩ = some (.int .i64 t182) := (kC BK198.out 0).trans rfl
      have hc1_ : w'.cell? ⟨gb198, 1, none⟩ = some (.slice Ao23 t183.length co23) := (kC BK198.out 1).trans rfl
      have hc2_ : w'.cell? ⟨gb198, 2, none⟩ = some (.slice Ao24 t186.length co24) := (kC BK198.out 2).trans rfl
      have hc3_ : w'.cell? ⟨gb198, 3, none⟩ = some (.slice Ao25 t189.length co25) := (kC BK198.out 3).trans rfl
      refine value_ (w1 := w') (v := .agg #[.int .i64 t182, .slice Ao23 t183.length co23, .slice Ao24 t186.length co24, .slice Ao25 t189.length co25]) (wanted_on rfl rfl rfl (e31.trans (by first | rfl | (simp [*]; done)))) rfl ?_ ?_
      ·go_simp
       (try simp only [i64_w])
       try rfl
      refine hK.out _ _ ⟨v208, v211, v214, v218, v221, v224, v228, v232, v235, v238, v242, v245, m20_, (by rw [ha.out]; exact putSel_upk 17 hb_ rfl rfl rfl), Q_HO185, Q_HO188, Q_HO191, Q_HO194, Q_HO197, Q_HO202, Q_HO205, Q_BK198, Q_BK199, Q_BK206, Q_HB, Q_HO209, Q_HO212, Q_HO215, Q_HO219, Q_HO222, Q_HO225, Q_HO229, fun h0_ => absurd ((hoff 20 (by kernel_rfl)).symm.trans h0_) (by decide), fun h0_ => absurd ((hoff 20 (by kernel_rfl)).symm.trans h0_) (by decide), fun h0_ => absurd ((hoff 20 (by kernel_rfl)).symm.trans h0_) (by decide), fun h0_ => absurd ((hoff 27 (by kernel_rfl)).symm.trans h0_) (by decide), fun h0_ => absurd ((hoff 28 (by kernel_rfl)).symm.trans h0_) (by decide), fun h0_ => absurd ((hoff 20 (by kernel_rfl)).symm.trans h0_) (by decide)⟩
     refine steps_cons ?_ ?_
     ·rintro b a w' ⟨v208, v211, v214, v218, v221, v224, v228, v232, v235, v238, v242, v245, m20_, ha, Q_HO185, Q_HO188, Q_HO191, Q_HO194, Q_HO197, Q_HO202, Q_HO205, Q_BK198, Q_BK199, Q_BK206, Q_HB, Q_HO209, Q_HO212, Q_HO215, Q_HO219, Q_HO222, Q_HO225, Q_HO229, Q_HO233, Q_HO236, Q_HO239, Q_HO243, Q_HO246, Q_X20_⟩ hb_ hon hoff
      refine ⟨_, rfl, fun K hK => ?_⟩
      have e31 : a.tmps[31]? = some (.bool true) := by rw [ha]; exact putSel_on (e := (16, 31, .bool true)) 16 rfl rfl (hon 16 (by kernel_rfl)) rfl
      replace ha := aM ha
      have HO185 := aM Q_HO185
      have HO188 := aM Q_HO188
      have HO191 := aM Q_HO191
      have HO194 := aM Q_HO194
      have HO197 := aM Q_HO197
      have HO202 := aM Q_HO202
      have HO205 := aM Q_HO205
      have BK198 := aM Q_BK198
      have BK199 := aM Q_BK199
      have BK206 := aM Q_BK206
      have HB := aM Q_HB
      have HO209 := aM (Q_HO209 (hon 1 (by kernel_rfl)))
      have HO212 := aM (Q_HO212 (hon 2 (by kernel_rfl)))
      have HO215 := aM (Q_HO215 (hon 4 (by kernel_rfl)))
      have HO219 := aM (Q_HO219 (hon 9 (by kernel_rfl)))
      have HO222 := aM (Q_HO222 (hon 10 (by kernel_rfl)))
      have HO225 := aM (Q_HO225 (hon 13 (by kernel_rfl)))
      refine value_ (w1 := w') (v := .agg #[.int .i64 1, .int .i64 0]) (wanted_on rfl rfl rfl (e31.trans (by first | rfl | (simp [*]; done)))) rfl ?_ ?_
      ·go_simp
       (try simp only [i64_w])
       try rfl
      refine hK.out _ _ ⟨v208, v211, v214, v218, v221, v224, v228, v232, v235, v238, v242, v245, m20_, (by rw [ha.out]; exact putSel_upk 18 hb_ rfl rfl rfl), Q_HO185, Q_HO188, Q_HO191, Q_HO194, Q_HO197, Q_HO202, Q_HO205, Q_BK198, Q_BK199, Q_BK206, Q_HB, Q_HO209, Q_HO212, Q_HO215, Q_HO219, Q_HO222, Q_HO225, fun h0_ => absurd ((hoff 19 (by kernel_rfl)).symm.trans h0_) (by decide), fun h0_ => absurd ((hoff 20 (by kernel_rfl)).symm.trans h0_) (by decide), fun h0_ => absurd ((hoff 20 (by kernel_rfl)).symm.trans h0_) (by decide), fun h0_ => absurd ((hoff 20 (by kernel_rfl)).symm.trans h0_) (by decide), fun h0_ => absurd ((hoff 27 (by kernel_rfl)).symm.trans h0_) (by decide), fun h0_ => absurd ((hoff 28 (by kernel_rfl)).symm.trans h0_) (by decide), fun h0_ => absurd ((hoff 20 (by kernel_rfl)).symm.trans h0_) (by decide)⟩
     refine steps_cons ?_ ?_
     ·rintro b a w' ⟨v208, v211, v214, v218, v221, v224, v228, v232, v235, v238, v242, v245, m20_, ha, Q_HO185, Q_HO188, Q_HO191, Q_HO194, Q_HO197, Q_HO202, Q_HO205, Q_BK198, Q_BK199, Q_BK206, Q_HB, Q_HO209, Q_HO212, Q_HO215, Q_HO219, Q_HO222, Q_HO225, Q_HO229, Q_HO233, Q_HO236, Q_HO239, Q_HO243, Q_HO246, Q_X20_⟩ hb_ hon hoff
      refine ⟨_, rfl, fun K hK => ?_⟩
      have e33 : a.tmps[33]? = some (.agg #[.int .i64 1, .int .i64 0]) := by rw [ha]; exact putSel_on (e := (18, 33, .agg #[.int .i64 1, .int .i64 0])) 18 rfl rfl (hon 18 (by kernel_rfl)) rfl
      have e31 : a.tmps[31]? = some (.bool true) := by rw [ha]; exact putSel_on (e := (16, 31, .bool true)) 16 rfl rfl (hon 16 (by kernel_rfl)) rfl
      replace ha := aM ha
      have HO185 := aM Q_HO185
      have HO188 := aM Q_HO188
      have HO191 := aM Q_HO191
      have HO194 := aM Q_HO194
      have HO197 := aM Q_HO197
      have HO202 := aM Q_HO202
      have HO205 := aM Q_HO205
      have BK198 := aM Q_BK198
      have BK199 := aM Q_BK199
      have BK206 := aM Q_BK206
      have HB := aM Q_HB
      have HO209 := aM (Q_HO209 (hon 1 (by kernel_rfl)))
      have HO212 := aM (Q_HO212 (hon 2 (by kernel_rfl)))
      have HO215 := aM (Q_HO215 (hon 4 (by kernel_rfl)))
      have HO219 := aM (Q_HO219 (hon 9 (by kernel_rfl)))
      have HO222 := aM (Q_HO222 (hon 10 (by kernel_rfl)))
      have HO225 := aM (Q_HO225 (hon 13 (by kernel_rfl)))
      refine Kd.R_lit_step k40 _ 40 ?hg (N := 34) ?hd (xs := ([(⟨1, 0⟩ : S40)] : List (S40))) (inner := [.int .i64 1, .int .i64 0]) (ok := fun _ => True) (okp := fun _ => True) ?hr ?hp (fun _ hk => hk) trivial (Below.refl _ _) (Nat.le_refl _) (by simp) ?_; (case hd => rfl); (case hg => exact (wanted_on rfl rfl rfl (e31.trans (by first | rfl | (simp [*]; done))))); (case hr => first | (go_simp; done) | (go_simp; rfl)); (case hp => exact (Reps.c2 (show Kd.M k40 _ _ _ (⟨1, 0⟩ : S40) [.int .i64 1, .int .i64 0] from (k40_mkM _ _ _ (⟨1, 0⟩ : S40) )) (Reps.none _ _)))
      intro v228 w58 ho59 hb hg_ hnew_
      clear hg_ hnew_
      (first | rw [← Ny227.out] at ho59 | (simp only [Int.reduceToNat] at ho59; rw [← Ny227.out] at ho59))
      have n0_ := aM (rB (rl HO185) hb)
      have n1_ := aM (rB (rl HO188) hb)
      have n2_ := aM (rB (rl HO191) hb)
      have n3_ := aM (rB (rl HO194) hb)
      have n4_ := aM (rB (rl HO197) hb)
      have n5_ := aM (rB (rl HO202) hb)
      have n6_ := aM (rB (rl HO205) hb)
      have n7_ := aM (Kd.N_below (by (with_reducible repeat (first | apply Kd.N_alloc | apply Kd.N_drewN | apply Kd.N_drew)); exact HO209.out) hb)
      have n8_ := aM (Kd.N_below (by (with_reducible repeat (first | apply Kd.N_alloc | apply Kd.N_drewN | apply Kd.N_drew)); exact HO212.out) hb)
      have n9_ := aM (Kd.N_below (by (with_reducible repeat (first | apply Kd.N_alloc | apply Kd.N_drewN | apply Kd.N_drew)); exact HO215.out) hb)
      have n10_ := aM (Kd.N_below (by (with_reducible repeat (first | apply Kd.N_alloc | apply Kd.N_drewN | apply Kd.N_drew)); exact HO219.out) hb)
      have n11_ := aM (Kd.N_below (by (with_reducible repeat (first | apply Kd.N_alloc | apply Kd.N_drewN | apply Kd.N_drew)); exact HO222.out) hb)
      have n12_ := aM (Kd.N_below (by (with_reducible repeat (first | apply Kd.N_alloc | apply Kd.N_drewN | apply Kd.N_drew)); exact HO225.out) hb)
      have n13_ := aM (Kd.R_lower ho59 (below_size (bl)))
      have n14_ := aM (kB (g := gb198) (o := .cells #[.int .i64 t182, .slice Ao23 t183.length co23, .slice Ao24 t186.length co24, .slice Ao25 t189.length co25] 31 (0, 0)) (kl BK198) hb)
      have n15_ := aM (kB (g := gb199) (o := .cells #[.int .i64 2, .slice Ao18 y192.length co18, .slice Ao17 y195.length co17, .slice none 0 0] 31 (0, 0)) (kl BK199) hb)
      have n16_ := aM (kB (g := gb206) (o := .cells #[.int .i64 1, .slice Ao32 y200.length co32, .slice Ao31 y203.length co31, .slice none 0 0] 31 (0, 0)) (kl BK206) hb)
      have n17_ := aM (bS (bl) hb)
      clear HO185 HO188 HO191 HO194 HO197 HO202 HO205 HO209 HO212 HO215 HO219 HO222 HO225 BK198 BK199 BK206 HB
      have HO185 := n0_
      have HO188 := n1_
      have HO191 := n2_
      have HO194 := n3_
      have HO197 := n4_
      have HO202 := n5_
      have HO205 := n6_
      have HO209 := n7_
      have HO212 := n8_
      have HO215 := n9_
      have HO219 := n10_
      have HO222 := n11_
      have HO225 := n12_
      have HO229 := n13_
      have BK198 := n14_
      have BK199 := n15_
      have BK206 := n16_
      have HB := n17_
      clear n0_ n1_ n2_ n3_ n4_ n5_ n6_ n7_ n8_ n9_ n10_ n11_ n12_ n13_ n14_ n15_ n16_ n17_ hb ho59
      refine hK.out _ _ ⟨v208, v211, v214, v218, v221, v224, v228, v232, v235, v238, v242, v245, m20_, (by rw [ha.out]; exact putSel_upk 19 hb_ rfl rfl rfl), (rl HO185), (rl HO188), (rl HO191), (rl HO194), (rl HO197), (rl HO202), (rl HO205), (kl BK198), (kl BK199), (kl BK206), (bl), fun _ => (by (with_reducible repeat (first | apply Kd.N_alloc | apply Kd.N_drewN | apply Kd.N_drew)); exact HO209.out), fun _ => (by (with_reducible repeat (first | apply Kd.N_alloc | apply Kd.N_drewN | apply Kd.N_drew)); exact HO212.out), fun _ => (by (with_reducible repeat (first | apply Kd.N_alloc | apply Kd.N_drewN | apply Kd.N_drew)); exact HO215.out), fun _ => (by (with_reducible repeat (first | apply Kd.N_alloc | apply Kd.N_drewN | apply Kd.N_drew)); exact HO219.out), fun _ => (by (with_reducible repeat (first | apply Kd.N_alloc | apply Kd.N_drewN | apply Kd.N_drew)); exact HO222.out), fun _ => (by (with_reducible repeat (first | apply Kd.N_alloc | apply Kd.N_drewN | apply Kd.N_drew)); exact HO225.out), fun _ => (rl HO229), fun h0_ => absurd ((hoff 20 (by kernel_rfl)).symm.trans h0_) (by decide), fun h0_ => absurd ((hoff 20 (by kernel_rfl)).symm.trans h0_) (by decide), fun h0_ => absurd ((hoff 20 (by kernel_rfl)).symm.trans h0_) (by decide), fun h0_ => absurd ((hoff 27 (by kernel_rfl)).symm.trans h0_) (by decide), fun h0_ => absurd ((hoff 28 (by kernel_rfl)).symm.trans h0_) (by decide), fun h0_ => absurd ((hoff 20 (by kernel_rfl)).symm.trans h0_) (by decide)⟩
     refine steps_cons ?_ ?_
     ·rintro b a w' ⟨v208, v211, v214, v218, v221, v224, v228, v232, v235, v238, v242, v245, m20_, ha, Q_HO185, Q_HO188, Q_HO191, Q_HO194, Q_HO197, Q_HO202, Q_HO205, Q_BK198, Q_BK199, Q_BK206, Q_HB, Q_HO209, Q_HO212, Q_HO215, Q_HO219, Q_HO222, Q_HO225, Q_HO229, Q_HO233, Q_HO236, Q_HO239, Q_HO243, Q_HO246, Q_X20_⟩ hb_ hon hoff
      refine ⟨_, rfl, fun K hK => ?_⟩
      have e32 : a.tmps[32]? = some (.agg #[.int .i64 t182, .slice Ao23 t183.length co23, .slice Ao24 t186.length co24, .slice Ao25 t189.length co25]) := by rw [ha]; exact putSel_on (e := (17, 32, .agg #[.int .i64 t182, .slice Ao23 t183.length co23, .slice Ao24 t186.length co24, .slice Ao25 t189.length co25])) 17 rfl rfl (hon 17 (by kernel_rfl)) rfl
      have e34 : a.tmps[34]? = some (v228) := by rw [ha]; exact putSel_on (e := (19, 34, v228)) 19 rfl rfl (hon 19 (by kernel_rfl)) rfl
      have e31 : a.tmps[31]? = some (.bool true) := by rw [ha]; exact putSel_on (e := (16, 31, .bool true)) 16 rfl rfl (hon 16 (by kernel_rfl)) rfl
      replace ha := aM ha
      have HO185 := aM Q_HO185
      have HO188 := aM Q_HO188
      have HO191 := aM Q_HO191
      have HO194 := aM Q_HO194
      have HO197 := aM Q_HO197
      have HO202 := aM Q_HO202
      have HO205 := aM Q_HO205
      have BK198 := aM Q_BK198
      have BK199 := aM Q_BK199
      have BK206 := aM Q_BK206
      have HB := aM Q_HB
      have HO209 := aM (Q_HO209 (hon 1 (by kernel_rfl)))
      have HO212 := aM (Q_HO212 (hon 2 (by kernel_rfl)))
      have HO215 := aM (Q_HO215 (hon 4 (by kernel_rfl)))
      have HO219 := aM (Q_HO219 (hon 9 (by kernel_rfl)))
      have HO222 := aM (Q_HO222 (hon 10 (by kernel_rfl)))
      have HO225 := aM (Q_HO225 (hon 13 (by kernel_rfl)))
      have HO229 := aM (Q_HO229 (hon 19 (by kernel_rfl)))
      obtain ⟨Ao60, co60, eo60⟩ := Kd.R_slice HO229.out
      (first | subst eo60 | (injection eo60 with f1_ f2_ f3_; have f4_ := f1_.symm; have f5_ := f3_.symm; clear f1_ f2_ f3_; subst f4_; subst f5_))
      refine goes_ Try.func13 (by kernel_rfl) rfl #[.agg #[.int .i64 t182, .slice Ao23 t183.length co23, .slice Ao24 t186.length co24, .slice Ao25 t189.length co25], .slice Ao60 y227.length co60, .int .i64 9] (wanted_on rfl rfl rfl (e31.trans (by first | rfl | (simp [*]; done)))) rfl rfl (by first | (simp only [List.map_toArray, List.map_cons, List.map_nil, Act.eval, Array.getD_eq_getD_getElem?, Option.getD_some, e32, e34, e31]; done) | (simp only [List.map_toArray, List.map_cons, List.map_nil, Act.eval, Array.getD_eq_getD_getElem?, Option.getD_some, e32, e34, e31]; rfl)) ?_
      with_reducible refine (generalize_Line.calls k t182 (fun k_ => some k_ = (.slice Ao23 t183.length co23 : Value).ownBlock) _ _ t183 (fun k_ => some k_ = (.slice Ao24 t186.length co24 : Value).ownBlock) _ _ t186 (fun k_ => some k_ = (.slice Ao25 t189.length co25 : Value).ownBlock) _ _ t189 _ _ y227 9 t230 t231 t234 t237 _ ?side1 ?side2 ?side3 ?side4 ?side5 A8.out).mono ?_
      (case side1 => exact Kd.R_V (Kd.R_tight rfl (HO185.out)))
      (case side2 => exact Kd.R_V (Kd.R_tight rfl (HO188.out)))
      (case side3 => exact Kd.R_V (Kd.R_tight rfl (HO191.out)))
      (case side4 => repeat (first | exact (rR HO229.out).2.2 | (with_reducible refine cA ?_ _) | (with_reducible refine cN ?_ _) | (with_reducible refine cD ?_)))
      (case side5 => exact (rR HO229.out).2.1)
      rintro e w61 ⟨v232, v235, v238, rfl, ho0, ho1, ho2, hb⟩
      refine ⟨_, rfl, ?_⟩
      replace HO185 := aM (rB (rl HO185) hb)
      replace HO188 := aM (rB (rl HO188) hb)
      replace HO191 := aM (rB (rl HO191) hb)
      replace HO194 := aM (rB (rl HO194) hb)
      replace HO197 := aM (rB (rl HO197) hb)
      replace HO202 := aM (rB (rl HO202) hb)
      replace HO205 := aM (rB (rl HO205) hb)
      replace HO209 := aM (Kd.N_below (by (with_reducible repeat (first | apply Kd.N_alloc | apply Kd.N_drewN | apply Kd.N_drew)); exact HO209.out) hb)
      replace HO212 := aM (Kd.N_below (by (with_reducible repeat (first | apply Kd.N_alloc | apply Kd.N_drewN | apply Kd.N_drew)); exact HO212.out) hb)
      replace HO215 := aM (Kd.N_below (by (with_reducible repeat (first | apply Kd.N_alloc | apply Kd.N_drewN | apply Kd.N_drew)); exact HO215.out) hb)
      replace HO219 := aM (Kd.N_below (by (with_reducible repeat (first | apply Kd.N_alloc | apply Kd.N_drewN | apply Kd.N_drew)); exact HO219.out) hb)
      replace HO222 := aM (Kd.N_below (by (with_reducible repeat (first | apply Kd.N_alloc | apply Kd.N_drewN | apply Kd.N_drew)); exact HO222.out) hb)
      replace HO225 := aM (Kd.N_below (by (with_reducible repeat (first | apply Kd.N_alloc | apply Kd.N_drewN | apply Kd.N_drew)); exact HO225.out) hb)
      replace HO229 := aM (rB (rl HO229) hb)
      have HO233 := aM (Kd.V_lower (Kd.V_mono (ok' := fun k_ => True) ho0 (fun k_ hk_ => trivial)) (below_size (bl)))
      have HO236 := aM (Kd.V_lower (Kd.V_mono (ok' := fun k_ => True) ho1 (fun k_ hk_ => trivial)) (below_size (bl)))
      have HO239 := aM (Kd.V_lower (Kd.V_mono (ok' := fun k_ => True) ho2 (fun k_ hk_ => trivial)) (below_size (bl)))
      replace BK198 := aM (kB (g := gb198) (o := .cells #[.int .i64 t182, .slice Ao23 t183.length co23, .slice Ao24 t186.length co24, .slice Ao25 t189.length co25] 31 (0, 0)) (kl BK198) hb)
      replace BK199 := aM (kB (g := gb199) (o := .cells #[.int .i64 2, .slice Ao18 y192.length co18, .slice Ao17 y195.length co17, .slice none 0 0] 31 (0, 0)) (kl BK199) hb)
      replace BK206 := aM (kB (g := gb206) (o := .cells #[.int .i64 1, .slice Ao32 y200.length co32, .slice Ao31 y203.length co31, .slice none 0 0] 31 (0, 0)) (kl BK206) hb)
      replace HB := aM (bS (bl) hb)
      (try clear hb)
      (try clear hb2)
      (try clear hk)
      (try clear hi)
      (try clear ho0)
      (try clear ho1)
      (try clear ho2)
      refine hK.out _ _ ⟨v208, v211, v214, v218, v221, v224, .slice Ao60 y227.length co60, v232, v235, v238, v242, v245, (.agg #[.int .i64 t230, v232, v235, v238]), (by rw [ha.out]; exact putSel_upk 20 hb_ rfl rfl rfl), (rl HO185), (rl HO188), (rl HO191), (rl HO194), (rl HO197), (rl HO202), (rl HO205), (kl BK198), (kl BK199), (kl BK206), (bl), fun _ => (by (with_reducible repeat (first | apply Kd.N_alloc | apply Kd.N_drewN | apply Kd.N_drew)); exact HO209.out), fun _ => (by (with_reducible repeat (first | apply Kd.N_alloc | apply Kd.N_drewN | apply Kd.N_drew)); exact HO212.out), fun _ => (by (with_reducible repeat (first | apply Kd.N_alloc | apply Kd.N_drewN | apply Kd.N_drew)); exact HO215.out), fun _ => (by (with_reducible repeat (first | apply Kd.N_alloc | apply Kd.N_drewN | apply Kd.N_drew)); exact HO219.out), fun _ => (by (with_reducible repeat (first | apply Kd.N_alloc | apply Kd.N_drewN | apply Kd.N_drew)); exact HO222.out), fun _ => (by (with_reducible repeat (first | apply Kd.N_alloc | apply Kd.N_drewN | apply Kd.N_drew)); exact HO225.out), fun _ => (rl HO229), fun _ => (by (with_reducible repeat (first | apply Kd.V_alloc | apply Kd.V_drewN | apply Kd.V_drew)); exact HO233.out), fun _ => (by (with_reducible repeat (first | apply Kd.V_alloc | apply Kd.V_drewN | apply Kd.V_drew)); exact HO236.out), fun _ => (by (with_reducible repeat (first | apply Kd.V_alloc | apply Kd.V_drewN | apply Kd.V_drew)); exact HO239.out), fun h0_ => absurd ((hoff 27 (by kernel_rfl)).symm.trans h0_) (by decide), fun h0_ => absurd ((hoff 28 (by kernel_rfl)).symm.trans h0_) (by decide), fun _ => rfl⟩
     refine steps_cons ?_ ?_
     ·rintro b a w' ⟨v208, v211, v214, v218, v221, v224, v228, v232, v235, v238, v242, v245, m20_, ha, Q_HO185, Q_HO188, Q_HO191, Q_HO194, Q_HO197, Q_HO202, Q_HO205, Q_BK198, Q_BK199, Q_BK206, Q_HB, Q_HO209, Q_HO212, Q_HO215, Q_HO219, Q_HO222, Q_HO225, Q_HO229, Q_HO233, Q_HO236, Q_HO239, Q_HO243, Q_HO246, Q_X20_⟩ hb_ hon hoff
      refine ⟨_, rfl, fun K hK => ?_⟩
      have e1 : a.tmps[1]? = some (.pointer (some ⟨gb198, 0, none⟩)) := by rw [ha]; exact (putSel_off rfl).trans rfl
      have e31 : a.tmps[31]? = some (.bool true) := by rw [ha]; exact putSel_on (e := (16, 31, .bool true)) 16 rfl rfl (hon 16 (by kernel_rfl)) rfl
      replace ha := aM ha
      have HO185 := aM Q_HO185
      have HO188 := aM Q_HO188
      have HO191 := aM Q_HO191
      have HO194 := aM Q_HO194
      have HO197 := aM Q_HO197
      have HO202 := aM Q_HO202
      have HO205 := aM Q_HO205
      have BK198 := aM Q_BK198
      have BK199 := aM Q_BK199
      have BK206 := aM Q_BK206
      have HB := aM Q_HB
      have HO209 := aM (Q_HO209 (hon 1 (by kernel_rfl)))
      have HO212 := aM (Q_HO212 (hon 2 (by kernel_rfl)))
      have HO215 := aM (Q_HO215 (hon 4 (by kernel_rfl)))
      have HO219 := aM (Q_HO219 (hon 9 (by kernel_rfl)))
      have HO222 := aM (Q_HO222 (hon 10 (by kernel_rfl)))
      have HO225 := aM (Q_HO225 (hon 13 (by kernel_rfl)))
      have hc0_ : w'.cell? ⟨gb198, 0, none⟩ = some (.int .i64 t182) := (kC BK198.out 0).trans rfl
      have hc1_ : w'.cell? ⟨gb198, 1, none⟩ = some (.slice Ao23 t183.length co23) := (kC BK198.out 1).trans rfl
      have hc2_ : w'.cell? ⟨gb198, 2, none⟩ = some (.slice Ao24 t186.length co24) := (kC BK198.out 2).trans rfl
      have hc3_ : w'.cell? ⟨gb198, 3, none⟩ = some (.slice Ao25 t189.length co25) := (kC BK198.out 3).trans rfl
      refine value_ (w1 := w') (v := .agg #[.int .i64 t182, .slice Ao23 t183.length co23, .slice Ao24 t186.length co24, .slice Ao25 t189.length co25]) (wanted_on rfl rfl rfl (e31.trans (by first | rfl | (simp [*]; done)))) rfl ?_ ?_
      ·go_simp
       (try simp only [i64_w])
       try rfl
      refine hK.out _ _ ⟨v208, v211, v214, v218, v221, v224, v228, v232, v235, v238, v242, v245, m20_, (by rw [ha.out]; exact putSel_upk 21 hb_ rfl rfl rfl), Q_HO185, Q_HO188, Q_HO191, Q_HO194, Q_HO197, Q_HO202, Q_HO205, Q_BK198, Q_BK199, Q_BK206, Q_HB, Q_HO209, Q_HO212, Q_HO215, Q_HO219, Q_HO222, Q_HO225, Q_HO229, Q_HO233, Q_HO236, Q_HO239, fun h0_ => absurd ((hoff 27 (by kernel_rfl)).symm.trans h0_) (by decide), fun h0_ => absurd ((hoff 28 (by kernel_rfl)).symm.trans h0_) (by decide), Q_X20_⟩
     refine steps_cons ?_ ?_
     ·rintro b a w' ⟨v208, v211, v214, v218, v221, v224, v228, v232, v235, v238, v242, v245, m20_, ha, Q_HO185, Q_HO188, Q_HO191, Q_HO194, Q_HO197, Q_HO202, Q_HO205, Q_BK198, Q_BK199, Q_BK206, Q_HB, Q_HO209, Q_HO212, Q_HO215, Q_HO219, Q_HO222, Q_HO225, Q_HO229, Q_HO233, Q_HO236, Q_HO239, Q_HO243, Q_HO246, Q_X20_⟩ hb_ hon hoff
      refine ⟨_, rfl, fun K hK => ?_⟩
      have e35 : a.tmps[35]? = some (m20_) := by rw [ha]; exact putSel_on (e := (20, 35, m20_)) 20 rfl rfl (hon 20 (by kernel_rfl)) rfl
      rw [Q_X20_ (hon 20 (by kernel_rfl))] at e35
      have e36 : a.tmps[36]? = some (.agg #[.int .i64 t182, .slice Ao23 t183.length co23, .slice Ao24 t186.length co24, .slice Ao25 t189.length co25]) := by rw [ha]; exact putSel_on (e := (21, 36, .agg #[.int .i64 t182, .slice Ao23 t183.length co23, .slice Ao24 t186.length co24, .slice Ao25 t189.length co25])) 21 rfl rfl (hon 21 (by kernel_rfl)) rfl
      have e31 : a.tmps[31]? = some (.bool true) := by rw [ha]; exact putSel_on (e := (16, 31, .bool true)) 16 rfl rfl (hon 16 (by kernel_rfl)) rfl
      replace ha := aM ha
      have HO185 := aM Q_HO185
      have HO188 := aM Q_HO188
      have HO191 := aM Q_HO191
      have HO194 := aM Q_HO194
      have HO197 := aM Q_HO197
      have HO202 := aM Q_HO202
      have HO205 := aM Q_HO205
      have BK198 := aM Q_BK198
      have BK199 := aM Q_BK199
      have BK206 := aM Q_BK206
      have HB := aM Q_HB
      have HO209 := aM (Q_HO209 (hon 1 (by kernel_rfl)))
      have HO212 := aM (Q_HO212 (hon 2 (by kernel_rfl)))
      have HO215 := aM (Q_HO215 (hon 4 (by kernel_rfl)))
      have HO219 := aM (Q_HO219 (hon 9 (by kernel_rfl)))
      have HO222 := aM (Q_HO222 (hon 10 (by kernel_rfl)))
      have HO225 := aM (Q_HO225 (hon 13 (by kernel_rfl)))
      have HO229 := aM (Q_HO229 (hon 19 (by kernel_rfl)))
      have HO233 := aM (Q_HO233 (hon 20 (by kernel_rfl)))
      have HO236 := aM (Q_HO236 (hon 20 (by kernel_rfl)))
      have HO239 := aM (Q_HO239 (hon 20 (by kernel_rfl)))
      obtain ⟨Ao62, co62, eo62⟩ := Kd.V_slice HO233.out
      (first | subst eo62 | (injection eo62 with f1_ f2_ f3_; have f4_ := f1_.symm; have f5_ := f3_.symm; clear f1_ f2_ f3_; subst f4_; subst f5_))
      obtain ⟨Ao63, co63, eo63⟩ := Kd.V_slice HO236.out
      (first | subst eo63 | (injection eo63 with f1_ f2_ f3_; have f4_ := f1_.symm; have f5_ := f3_.symm; clear f1_ f2_ f3_; subst f4_; subst f5_))
      obtain ⟨Ao64, co64, eo64⟩ := Kd.V_slice HO239.out
      (first | subst eo64 | (injection eo64 with f1_ f2_ f3_; have f4_ := f1_.symm; have f5_ := f3_.symm; clear f1_ f2_ f3_; subst f4_; subst f5_))
      refine goes_ Try.func12 (by kernel_rfl) rfl #[.agg #[.int .i64 t230, .slice Ao62 t231.length co62, .slice Ao63 t234.length co63, .slice Ao64 t237.length co64], .agg #[.int .i64 t182, .slice Ao23 t183.length co23, .slice Ao24 t186.length co24, .slice Ao25 t189.length co25]] (wanted_on rfl rfl rfl (e31.trans (by first | rfl | (simp [*]; done)))) rfl rfl (by first | (simp only [List.map_toArray, List.map_cons, List.map_nil, Act.eval, Array.getD_eq_getD_getElem?, Option.getD_some, e35, e36, e31]; done) | (simp only [List.map_toArray, List.map_cons, List.map_nil, Act.eval, Array.getD_eq_getD_getElem?, Option.getD_some, e35, e36, e31]; rfl)) ?_
      with_reducible refine (mapmakerlaw26_same.calls k t230 _ _ t231 _ _ t234 _ _ t237 t182 _ _ t183 _ _ t186 _ _ t189 true _ ?side1 ?side2 ?side3 ?side4 ?side5 ?side6 ?side7 ?side8 ?side9 ?side10 ?side11 ?side12 A9.out).mono ?_
      (case side1 => repeat (first | exact (Kd.V_reads' HO233.out).2.2 | (with_reducible refine cA ?_ _) | (with_reducible refine cN ?_ _) | (with_reducible refine cD ?_)))
      (case side2 => exact (Kd.V_reads' HO233.out).2.1)
      (case side3 => repeat (first | exact (Kd.V_reads' HO236.out).2.2 | (with_reducible refine cA ?_ _) | (with_reducible refine cN ?_ _) | (with_reducible refine cD ?_)))
      (case side4 => exact (Kd.V_reads' HO236.out).2.1)
      (case side5 => repeat (first | exact (Kd.V_reads' HO239.out).2.2 | (with_reducible refine cA ?_ _) | (with_reducible refine cN ?_ _) | (with_reducible refine cD ?_)))
      (case side6 => exact (Kd.V_reads' HO239.out).2.1)
      (case side7 => repeat (first | exact (rR HO185.out).2.2 | (with_reducible refine cA ?_ _) | (with_reducible refine cN ?_ _) | (with_reducible refine cD ?_)))
      (case side8 => exact (rR HO185.out).2.1)
      (case side9 => repeat (first | exact (rR HO188.out).2.2 | (with_reducible refine cA ?_ _) | (with_reducible refine cN ?_ _) | (with_reducible refine cD ?_)))
      (case side10 => exact (rR HO188.out).2.1)
      (case side11 => repeat (first | exact (rR HO191.out).2.2 | (with_reducible refine cA ?_ _) | (with_reducible refine cN ?_ _) | (with_reducible refine cD ?_)))
      (case side12 => exact (rR HO191.out).2.1)
      rintro e w65 ⟨rfl, hb⟩
      refine ⟨_, rfl, ?_⟩
      replace HO185 := aM (rB (rl HO185) hb)
      replace HO188 := aM (rB (rl HO188) hb)
      replace HO191 := aM (rB (rl HO191) hb)
      replace HO194 := aM (rB (rl HO194) hb)
      replace HO197 := aM (rB (rl HO197) hb)
      replace HO202 := aM (rB (rl HO202) hb)
      replace HO205 := aM (rB (rl HO205) hb)
      replace HO209 := aM (Kd.N_below (by (with_reducible repeat (first | apply Kd.N_alloc | apply Kd.N_drewN | apply Kd.N_drew)); exact HO209.out) hb)
      replace HO212 := aM (Kd.N_below (by (with_reducible repeat (first | apply Kd.N_alloc | apply Kd.N_drewN | apply Kd.N_drew)); exact HO212.out) hb)
      replace HO215 := aM (Kd.N_below (by (with_reducible repeat (first | apply Kd.N_alloc | apply Kd.N_drewN | apply Kd.N_drew)); exact HO215.out) hb)
      replace HO219 := aM (Kd.N_below (by (with_reducible repeat (first | apply Kd.N_alloc | apply Kd.N_drewN | apply Kd.N_drew)); exact HO219.out) hb)
      replace HO222 := aM (Kd.N_below (by (with_reducible repeat (first | apply Kd.N_alloc | apply Kd.N_drewN | apply Kd.N_drew)); exact HO222.out) hb)
      replace HO225 := aM (Kd.N_below (by (with_reducible repeat (first | apply Kd.N_alloc | apply Kd.N_drewN | apply Kd.N_drew)); exact HO225.out) hb)
      replace HO229 := aM (rB (rl HO229) hb)
      replace HO233 := aM (Kd.V_below (by (with_reducible repeat (first | apply Kd.V_alloc | apply Kd.V_drewN | apply Kd.V_drew)); exact HO233.out) hb)
      replace HO236 := aM (Kd.V_below (by (with_reducible repeat (first | apply Kd.V_alloc | apply Kd.V_drewN | apply Kd.V_drew)); exact HO236.out) hb)
      replace HO239 := aM (Kd.V_below (by (with_reducible repeat (first | apply Kd.V_alloc | apply Kd.V_drewN | apply Kd.V_drew)); exact HO239.out) hb)
      replace BK198 := aM (kB (g := gb198) (o := .cells #[.int .i64 t182, .slice Ao23 t183.length co23, .slice Ao24 t186.length co24, .slice Ao25 t189.length co25] 31 (0, 0)) (kl BK198) hb)
      replace BK199 := aM (kB (g := gb199) (o := .cells #[.int .i64 2, .slice Ao18 y192.length co18, .slice Ao17 y195.length co17, .slice none 0 0] 31 (0, 0)) (kl BK199) hb)
      replace BK206 := aM (kB (g := gb206) (o := .cells #[.int .i64 1, .slice Ao32 y200.length co32, .slice Ao31 y203.length co31, .slice none 0 0] 31 (0, 0)) (kl BK206) hb)
      replace HB := aM (bS (bl) hb)
      (try clear hb)
      (try clear hb2)
      (try clear hk)
      (try clear hi)
      refine hK.out _ _ ⟨v208, v211, v214, v218, v221, v224, v228, .slice Ao62 t231.length co62, .slice Ao63 t234.length co63, .slice Ao64 t237.length co64, v242, v245, m20_, (by rw [ha.out]; exact putSel_upk 22 hb_ rfl rfl rfl), (rl HO185), (rl HO188), (rl HO191), (rl HO194), (rl HO197), (rl HO202), (rl HO205), (kl BK198), (kl BK199), (kl BK206), (bl), fun _ => (by (with_reducible repeat (first | apply Kd.N_alloc | apply Kd.N_drewN | apply Kd.N_drew)); exact HO209.out), fun _ => (by (with_reducible repeat (first | apply Kd.N_alloc | apply Kd.N_drewN | apply Kd.N_drew)); exact HO212.out), fun _ => (by (with_reducible repeat (first | apply Kd.N_alloc | apply Kd.N_drewN | apply Kd.N_drew)); exact HO215.out), fun _ => (by (with_reducible repeat (first | apply Kd.N_alloc | apply Kd.N_drewN | apply Kd.N_drew)); exact HO219.out), fun _ => (by (with_reducible repeat (first | apply Kd.N_alloc | apply Kd.N_drewN | apply Kd.N_drew)); exact HO222.out), fun _ => (by (with_reducible repeat (first | apply Kd.N_alloc | apply Kd.N_drewN | apply Kd.N_drew)); exact HO225.out), fun _ => (rl HO229), fun _ => (by (with_reducible repeat (first | apply Kd.V_alloc | apply Kd.V_drewN | apply Kd.V_drew)); exact HO233.out), fun _ => (by (with_reducible repeat (first | apply Kd.V_alloc | apply Kd.V_drewN | apply Kd.V_drew)); exact HO236.out), fun _ => (by (with_reducible repeat (first | apply Kd.V_alloc | apply Kd.V_drewN | apply Kd.V_drew)); exact HO239.out), fun h0_ => absurd ((hoff 27 (by kernel_rfl)).symm.trans h0_) (by decide), fun h0_ => absurd ((hoff 28 (by kernel_rfl)).symm.trans h0_) (by decide), Q_X20_⟩
     refine steps_cons ?_ ?_
     ·rintro b a w' ⟨v208, v211, v214, v218, v221, v224, v228, v232, v235, v238, v242, v245, m20_, ha, Q_HO185, Q_HO188, Q_HO191, Q_HO194, Q_HO197, Q_HO202, Q_HO205, Q_BK198, Q_BK199, Q_BK206, Q_HB, Q_HO209, Q_HO212, Q_HO215, Q_HO219, Q_HO222, Q_HO225, Q_HO229, Q_HO233, Q_HO236, Q_HO239, Q_HO243, Q_HO246, Q_X20_⟩ hb_ hon hoff
      refine ⟨_, rfl, fun K hK => ?_⟩
      have e31 : a.tmps[31]? = some (.bool true) := by rw [ha]; exact putSel_on (e := (16, 31, .bool true)) 16 rfl rfl (hon 16 (by kernel_rfl)) rfl
      have e37 : a.tmps[37]? = some (.bool true) := by rw [ha]; exact putSel_on (e := (22, 37, .bool true)) 22 rfl rfl (hon 22 (by kernel_rfl)) rfl
      replace ha := aM ha
      have HO185 := aM Q_HO185
      have HO188 := aM Q_HO188
      have HO191 := aM Q_HO191
      have HO194 := aM Q_HO194
      have HO197 := aM Q_HO197
      have HO202 := aM Q_HO202
      have HO205 := aM Q_HO205
      have BK198 := aM Q_BK198
      have BK199 := aM Q_BK199
      have BK206 := aM Q_BK206
      have HB := aM Q_HB
      have HO209 := aM (Q_HO209 (hon 1 (by kernel_rfl)))
      have HO212 := aM (Q_HO212 (hon 2 (by kernel_rfl)))
      have HO215 := aM (Q_HO215 (hon 4 (by kernel_rfl)))
      have HO219 := aM (Q_HO219 (hon 9 (by kernel_rfl)))
      have HO222 := aM (Q_HO222 (hon 10 (by kernel_rfl)))
      have HO225 := aM (Q_HO225 (hon 13 (by kernel_rfl)))
      have HO229 := aM (Q_HO229 (hon 19 (by kernel_rfl)))
      have HO233 := aM (Q_HO233 (hon 20 (by kernel_rfl)))
      have HO236 := aM (Q_HO236 (hon 20 (by kernel_rfl)))
      have HO239 := aM (Q_HO239 (hon 20 (by kernel_rfl)))
      refine value_ (w1 := w') (v := .bool true) (by rfl) rfl ?_ ?_
      ·go_simp
       (try simp only [i64_w])
       try rfl
      refine hK.out _ _ ⟨v208, v211, v214, v218, v221, v224, v228, v232, v235, v238, v242, v245, m20_, (by rw [ha.out]; exact putSel_upk 23 hb_ rfl rfl rfl), Q_HO185, Q_HO188, Q_HO191, Q_HO194, Q_HO197, Q_HO202, Q_HO205, Q_BK198, Q_BK199, Q_BK206, Q_HB, Q_HO209, Q_HO212, Q_HO215, Q_HO219, Q_HO222, Q_HO225, Q_HO229, Q_HO233, Q_HO236, Q_HO239, fun h0_ => absurd ((hoff 27 (by kernel_rfl)).symm.trans h0_) (by decide), fun h0_ => absurd ((hoff 28 (by kernel_rfl)).symm.trans h0_) (by decide), Q_X20_⟩
     refine steps_cons ?_ ?_
     ·rintro b a w' ⟨v208, v211, v214, v218, v221, v224, v228, v232, v235, v238, v242, v245, m20_, ha, Q_HO185, Q_HO188, Q_HO191, Q_HO194, Q_HO197, Q_HO202, Q_HO205, Q_BK198, Q_BK199, Q_BK206, Q_HB, Q_HO209, Q_HO212, Q_HO215, Q_HO219, Q_HO222, Q_HO225, Q_HO229, Q_HO233, Q_HO236, Q_HO239, Q_HO243, Q_HO246, Q_X20_⟩ hb_ hon hoff
      refine ⟨_, rfl, fun K hK => ?_⟩
      have e38 : a.tmps[38]? = some (.bool true) := by rw [ha]; exact putSel_on (e := (23, 38, .bool true)) 23 rfl rfl (hon 23 (by kernel_rfl)) rfl
      replace ha := aM ha
      have HO185 := aM Q_HO185
      have HO188 := aM Q_HO188
      have HO191 := aM Q_HO191
      have HO194 := aM Q_HO194
      have HO197 := aM Q_HO197
      have HO202 := aM Q_HO202
      have HO205 := aM Q_HO205
      have BK198 := aM Q_BK198
      have BK199 := aM Q_BK199
      have BK206 := aM Q_BK206
      have HB := aM Q_HB
      have HO209 := aM (Q_HO209 (hon 1 (by kernel_rfl)))
      have HO212 := aM (Q_HO212 (hon 2 (by kernel_rfl)))
      have HO215 := aM (Q_HO215 (hon 4 (by kernel_rfl)))
      have HO219 := aM (Q_HO219 (hon 9 (by kernel_rfl)))
      have HO222 := aM (Q_HO222 (hon 10 (by kernel_rfl)))
      have HO225 := aM (Q_HO225 (hon 13 (by kernel_rfl)))
      have HO229 := aM (Q_HO229 (hon 19 (by kernel_rfl)))
      have HO233 := aM (Q_HO233 (hon 20 (by kernel_rfl)))
      have HO236 := aM (Q_HO236 (hon 20 (by kernel_rfl)))
      have HO239 := aM (Q_HO239 (hon 20 (by kernel_rfl)))
      refine value_ (w1 := w') (v := .bool true) (by rfl) rfl ?_ ?_
      ·go_simp
       (try simp only [i64_w])
       try rfl
      refine hK.out _ _ ⟨v208, v211, v214, v218, v221, v224, v228, v232, v235, v238, v242, v245, m20_, (by rw [ha.out]; exact putSel_upk 24 hb_ rfl rfl rfl), Q_HO185, Q_HO188, Q_HO191, Q_HO194, Q_HO197, Q_HO202, Q_HO205, Q_BK198, Q_BK199, Q_BK206, Q_HB, Q_HO209, Q_HO212, Q_HO215, Q_HO219, Q_HO222, Q_HO225, Q_HO229, Q_HO233, Q_HO236, Q_HO239, fun h0_ => absurd ((hoff 27 (by kernel_rfl)).symm.trans h0_) (by decide), fun h0_ => absurd ((hoff 28 (by kernel_rfl)).symm.trans h0_) (by decide), Q_X20_⟩
     refine steps_cons ?_ ?_
     ·rintro b a w' ⟨v208, v211, v214, v218, v221, v224, v228, v232, v235, v238, v242, v245, m20_, ha, Q_HO185, Q_HO188, Q_HO191, Q_HO194, Q_HO197, Q_HO202, Q_HO205, Q_BK198, Q_BK199, Q_BK206, Q_HB, Q_HO209, Q_HO212, Q_HO215, Q_HO219, Q_HO222, Q_HO225, Q_HO229, Q_HO233, Q_HO236, Q_HO239, Q_HO243, Q_HO246, Q_X20_⟩ hb_ hon hoff
      refine ⟨_, rfl, fun K hK => ?_⟩
      have e1 : a.tmps[1]? = some (.pointer (some ⟨gb198, 0, none⟩)) := by rw [ha]; exact (putSel_off rfl).trans rfl
      have e39 : a.tmps[39]? = some (.bool true) := by rw [ha]; exact putSel_on (e := (24, 39, .bool true)) 24 rfl rfl (hon 24 (by kernel_rfl)) rfl
      replace ha := aM ha
      have HO185 := aM Q_HO185
      have HO188 := aM Q_HO188
      have HO191 := aM Q_HO191
      have HO194 := aM Q_HO194
      have HO197 := aM Q_HO197
      have HO202 := aM Q_HO202
      have HO205 := aM Q_HO205
      have BK198 := aM Q_BK198
      have BK199 := aM Q_BK199
      have BK206 := aM Q_BK206
      have HB := aM Q_HB
      have HO209 := aM (Q_HO209 (hon 1 (by kernel_rfl)))
      have HO212 := aM (Q_HO212 (hon 2 (by kernel_rfl)))
      have HO215 := aM (Q_HO215 (hon 4 (by kernel_rfl)))
      have HO219 := aM (Q_HO219 (hon 9 (by kernel_rfl)))
      have HO222 := aM (Q_HO222 (hon 10 (by kernel_rfl)))
      have HO225 := aM (Q_HO225 (hon 13 (by kernel_rfl)))
      have HO229 := aM (Q_HO229 (hon 19 (by kernel_rfl)))
      have HO233 := aM (Q_HO233 (hon 20 (by kernel_rfl)))
      have HO236 := aM (Q_HO236 (hon 20 (by kernel_rfl)))
      have HO239 := aM (Q_HO239 (hon 20 (by kernel_rfl)))
      have hc0_ : w'.cell? ⟨gb198, 0, none⟩ = some (.int .i64 t182) := (kC BK198.out 0).trans rfl
      have hc1_ : w'.cell? ⟨gb198, 1, none⟩ = some (.slice Ao23 t183.length co23) := (kC BK198.out 1).trans rfl
      have hc2_ : w'.cell? ⟨gb198, 2, none⟩ = some (.slice Ao24 t186.length co24) := (kC BK198.out 2).trans rfl
      have hc3_ : w'.cell? ⟨gb198, 3, none⟩ = some (.slice Ao25 t189.length co25) := (kC BK198.out 3).trans rfl
      refine value_ (w1 := w') (v := .agg #[.int .i64 t182, .slice Ao23 t183.length co23, .slice Ao24 t186.length co24, .slice Ao25 t189.length co25]) (wanted_on rfl rfl rfl (e39.trans (by first | rfl | (simp [*]; done)))) rfl ?_ ?_
      ·go_simp
       (try simp only [i64_w])
       try rfl
      refine hK.out _ _ ⟨v208, v211, v214, v218, v221, v224, v228, v232, v235, v238, v242, v245, m20_, (by rw [ha.out]; exact putSel_upk 25 hb_ rfl rfl rfl), Q_HO185, Q_HO188, Q_HO191, Q_HO194, Q_HO197, Q_HO202, Q_HO205, Q_BK198, Q_BK199, Q_BK206, Q_HB, Q_HO209, Q_HO212, Q_HO215, Q_HO219, Q_HO222, Q_HO225, Q_HO229, Q_HO233, Q_HO236, Q_HO239, fun h0_ => absurd ((hoff 27 (by kernel_rfl)).symm.trans h0_) (by decide), fun h0_ => absurd ((hoff 28 (by kernel_rfl)).symm.trans h0_) (by decide), Q_X20_⟩
     refine steps_cons ?_ ?_
     ·rintro b a w' ⟨v208, v211, v214, v218, v221, v224, v228, v232, v235, v238, v242, v245, m20_, ha, Q_HO185, Q_HO188, Q_HO191, Q_HO194, Q_HO197, Q_HO202, Q_HO205, Q_BK198, Q_BK199, Q_BK206, Q_HB, Q_HO209, Q_HO212, Q_HO215, Q_HO219, Q_HO222, Q_HO225, Q_HO229, Q_HO233, Q_HO236, Q_HO239, Q_HO243, Q_HO246, Q_X20_⟩ hb_ hon hoff
      refine ⟨_, rfl, fun K hK => ?_⟩
      have e2 : a.tmps[2]? = some (.pointer (some ⟨gb199, 0, none⟩)) := by rw [ha]; exact (putSel_off rfl).trans rfl
      have e39 : a.tmps[39]? = some (.bool true) := by rw [ha]; exact putSel_on (e := (24, 39, .bool true)) 24 rfl rfl (hon 24 (by kernel_rfl)) rfl
      replace ha := aM ha
      have HO185 := aM Q_HO185
      have HO188 := aM Q_HO188
      have HO191 := aM Q_HO191
      have HO194 := aM Q_HO194
      have HO197 := aM Q_HO197
      have HO202 := aM Q_HO202
      have HO205 := aM Q_HO205
      have BK198 := aM Q_BK198
      have BK199 := aM Q_BK199
      have BK206 := aM Q_BK206
      have HB := aM Q_HB
      have HO209 := aM (Q_HO209 (hon 1 (by kernel_rfl)))
      have HO212 := aM (Q_HO212 (hon 2 (by kernel_rfl)))
      have HO215 := aM (Q_HO215 (hon 4 (by kernel_rfl)))
      have HO219 := aM (Q_HO219 (hon 9 (by kernel_rfl)))
      have HO222 := aM (Q_HO222 (hon 10 (by kernel_rfl)))
      have HO225 := aM (Q_HO225 (hon 13 (by kernel_rfl)))
      have HO229 := aM (Q_HO229 (hon 19 (by kernel_rfl)))
      have HO233 := aM (Q_HO233 (hon 20 (by kernel_rfl)))
      have HO236 := aM (Q_HO236 (hon 20 (by kernel_rfl)))
      have HO239 := aM (Q_HO239 (hon 20 (by kernel_rfl)))
      have hc0_ : w'.cell? ⟨gb199, 0, none⟩ = some (.int .i64 2) := (kC BK199.out 0).trans rfl
      have hc1_ : w'.cell? ⟨gb199, 1, none⟩ = some (.slice Ao18 y192.length co18) := (kC BK199.out 1).trans rfl
      have hc2_ : w'.cell? ⟨gb199, 2, none⟩ = some (.slice Ao17 y195.length co17) := (kC BK199.out 2).trans rfl
      have hc3_ : w'.cell? ⟨gb199, 3, none⟩ = some (.slice none 0 0) := (kC BK199.out 3).trans rfl
      refine value_ (w1 := w') (v := .agg #[.int .i64 2, .slice Ao18 y192.length co18, .slice Ao17 y195.length co17, .slice none 0 0]) (wanted_on rfl rfl rfl (e39.trans (by first | rfl | (simp [*]; done)))) rfl ?_ ?_
      ·go_simp
       (try simp only [i64_w])
       try rfl
      refine hK.out _ _ ⟨v208, v211, v214, v218, v221, v224, v228, v232, v235, v238, v242, v245, m20_, (by rw [ha.out]; exact putSel_upk 26 hb_ rfl rfl rfl), Q_HO185, Q_HO188, Q_HO191, Q_HO194, Q_HO197, Q_HO202, Q_HO205, Q_BK198, Q_BK199, Q_BK206, Q_HB, Q_HO209, Q_HO212, Q_HO215, Q_HO219, Q_HO222, Q_HO225, Q_HO229, Q_HO233, Q_HO236, Q_HO239, fun h0_ => absurd ((hoff 27 (by kernel_rfl)).symm.trans h0_) (by decide), fun h0_ => absurd ((hoff 28 (by kernel_rfl)).symm.trans h0_) (by decide), Q_X20_⟩
     refine steps_cons ?_ ?_
     ·rintro b a w' ⟨v208, v211, v214, v218, v221, v224, v228, v232, v235, v238, v242, v245, m20_, ha, Q_HO185, Q_HO188, Q_HO191, Q_HO194, Q_HO197, Q_HO202, Q_HO205, Q_BK198, Q_BK199, Q_BK206, Q_HB, Q_HO209, Q_HO212, Q_HO215, Q_HO219, Q_HO222, Q_HO225, Q_HO229, Q_HO233, Q_HO236, Q_HO239, Q_HO243, Q_HO246, Q_X20_⟩ hb_ hon hoff
      refine ⟨_, rfl, fun K hK => ?_⟩
      have e40 : a.tmps[40]? = some (.agg #[.int .i64 t182, .slice Ao23 t183.length co23, .slice Ao24 t186.length co24, .slice Ao25 t189.length co25]) := by rw [ha]; exact putSel_on (e := (25, 40, .agg #[.int .i64 t182, .slice Ao23 t183.length co23, .slice Ao24 t186.length co24, .slice Ao25 t189.length co25])) 25 rfl rfl (hon 25 (by kernel_rfl)) rfl
      have e41 : a.tmps[41]? = some (.agg #[.int .i64 2, .slice Ao18 y192.length co18, .slice Ao17 y195.length co17, .slice none 0 0]) := by rw [ha]; exact putSel_on (e := (26, 41, .agg #[.int .i64 2, .slice Ao18 y192.length co18, .slice Ao17 y195.length co17, .slice none 0 0])) 26 rfl rfl (hon 26 (by kernel_rfl)) rfl
      have e39 : a.tmps[39]? = some (.bool true) := by rw [ha]; exact putSel_on (e := (24, 39, .bool true)) 24 rfl rfl (hon 24 (by kernel_rfl)) rfl
      replace ha := aM ha
      have HO185 := aM Q_HO185
      have HO188 := aM Q_HO188
      have HO191 := aM Q_HO191
      have HO194 := aM Q_HO194
      have HO197 := aM Q_HO197
      have HO202 := aM Q_HO202
      have HO205 := aM Q_HO205
      have BK198 := aM Q_BK198
      have BK199 := aM Q_BK199
      have BK206 := aM Q_BK206
      have HB := aM Q_HB
      have HO209 := aM (Q_HO209 (hon 1 (by kernel_rfl)))
      have HO212 := aM (Q_HO212 (hon 2 (by kernel_rfl)))
      have HO215 := aM (Q_HO215 (hon 4 (by kernel_rfl)))
      have HO219 := aM (Q_HO219 (hon 9 (by kernel_rfl)))
      have HO222 := aM (Q_HO222 (hon 10 (by kernel_rfl)))
      have HO225 := aM (Q_HO225 (hon 13 (by kernel_rfl)))
      have HO229 := aM (Q_HO229 (hon 19 (by kernel_rfl)))
      have HO233 := aM (Q_HO233 (hon 20 (by kernel_rfl)))
      have HO236 := aM (Q_HO236 (hon 20 (by kernel_rfl)))
      have HO239 := aM (Q_HO239 (hon 20 (by kernel_rfl)))
      refine Kd.N_lit_step k31 _ 31 ?hg (N' := 42) ?hd (xs := ([(⟨t182, t183, t186, t189⟩ : S31), (⟨2, y192, y195, ([] : List (S80))⟩ : S31)] : List (S31))) (inner := [.int .i64 t182, .slice Ao23 t183.length co23, .slice Ao24 t186.length co24, .slice Ao25 t189.length co25, .int .i64 2, .slice Ao18 y192.length co18, .slice Ao17 y195.length co17, .slice none 0 0]) (ok := (fun _ => True)) (okp := (fun _ => True)) ?hr ?hp (fun _ hk => hk) ((show ∀ k_, w'.heap.size ≤ k_ → (fun _ => True) k_ from fun k_ hk => trivial) _ (Nat.le_refl _)) (Below.refl _ _) (Nat.le_refl _) (by simp) ?_; (case hd => rfl); (case hg => exact (wanted_on rfl rfl rfl (e39.trans (by first | rfl | (simp [*]; done))))); (case hr => first | (go_simp; done) | (go_simp; rfl)); (case hp => exact (Reps.c4 (show Kd.FK k31 _ _ (⟨t182, t183, t186, t189⟩ : S31) [.int .i64 t182, .slice Ao23 t183.length co23, .slice Ao24 t186.length co24, .slice Ao25 t189.length co25] from (k31_mkF _ _ (⟨t182, t183, t186, t189⟩ : S31) (rR (rM (ok' := (fun _ => True)) (HO185.out) (fun k_ hk => trivial))).2.1 (Kd.R_F (rM (ok' := (fun _ => True)) (HO185.out) (fun k_ hk => trivial))) (rR (rM (ok' := (fun _ => True)) (HO188.out) (fun k_ hk => trivial))).2.1 (Kd.R_F (rM (ok' := (fun _ => True)) (HO188.out) (fun k_ hk => trivial))) (rR (rM (ok' := (fun _ => True)) (HO191.out) (fun k_ hk => trivial))).2.1 (Kd.R_F (rM (ok' := (fun _ => True)) (HO191.out) (fun k_ hk => trivial))))) (Reps.c4 (show Kd.FK k31 _ _ (⟨2, y192, y195, ([] : List (S80))⟩ : S31) [.int .i64 2, .slice Ao18 y192.length co18, .slice Ao17 y195.length co17, .slice none 0 0] from (k31_mkF _ _ (⟨2, y192, y195, ([] : List (S80))⟩ : S31) (rR (rM (ok' := (fun _ => True)) (HO194.out) (fun k_ hk => trivial))).2.1 (Kd.R_F (rM (ok' := (fun _ => True)) (HO194.out) (fun k_ hk => trivial))) (rR (rM (ok' := (fun _ => True)) (HO197.out) (fun k_ hk => trivial))).2.1 (Kd.R_F (rM (ok' := (fun _ => True)) (HO197.out) (fun k_ hk => trivial))) (Nat.le_refl _) (Kd.F_nil _ _ _))) (Reps.none _ _))))
      intro v242 w66 ho67 hb hg_ hnew_
      clear hg_ hnew_
      (first | rw [← Ny241.out] at ho67 | (simp only [Int.reduceToNat] at ho67; rw [← Ny241.out] at ho67))
      have n0_ := aM (rB (rl HO185) hb)
      have n1_ := aM (rB (rl HO188) hb)
      have n2_ := aM (rB (rl HO191) hb)
      have n3_ := aM (rB (rl HO194) hb)
      have n4_ := aM (rB (rl HO197) hb)
      have n5_ := aM (rB (rl HO202) hb)
      have n6_ := aM (rB (rl HO205) hb)
      have n7_ := aM (Kd.N_below (by (with_reducible repeat (first | apply Kd.N_alloc | apply Kd.N_drewN | apply Kd.N_drew)); exact HO209.out) hb)
      have n8_ := aM (Kd.N_below (by (with_reducible repeat (first | apply Kd.N_alloc | apply Kd.N_drewN | apply Kd.N_drew)); exact HO212.out) hb)
      have n9_ := aM (Kd.N_below (by (with_reducible repeat (first | apply Kd.N_alloc | apply Kd.N_drewN | apply Kd.N_drew)); exact HO215.out) hb)
      have n10_ := aM (Kd.N_below (by (with_reducible repeat (first | apply Kd.N_alloc | apply Kd.N_drewN | apply Kd.N_drew)); exact HO219.out) hb)
      have n11_ := aM (Kd.N_below (by (with_reducible repeat (first | apply Kd.N_alloc | apply Kd.N_drewN | apply Kd.N_drew)); exact HO222.out) hb)
      have n12_ := aM (Kd.N_below (by (with_reducible repeat (first | apply Kd.N_alloc | apply Kd.N_drewN | apply Kd.N_drew)); exact HO225.out) hb)
      have n13_ := aM (rB (rl HO229) hb)
      have n14_ := aM (Kd.V_below (by (with_reducible repeat (first | apply Kd.V_alloc | apply Kd.V_drewN | apply Kd.V_drew)); exact HO233.out) hb)
      have n15_ := aM (Kd.V_below (by (with_reducible repeat (first | apply Kd.V_alloc | apply Kd.V_drewN | apply Kd.V_drew)); exact HO236.out) hb)
      have n16_ := aM (Kd.V_below (by (with_reducible repeat (first | apply Kd.V_alloc | apply Kd.V_drewN | apply Kd.V_drew)); exact HO239.out) hb)
      have n17_ := aM (Kd.N_lower ho67 (below_size (bl)))
      have n18_ := aM (kB (g := gb198) (o := .cells #[.int .i64 t182, .slice Ao23 t183.length co23, .slice Ao24 t186.length co24, .slice Ao25 t189.length co25] 31 (0, 0)) (kl BK198) hb)
      have n19_ := aM (kB (g := gb199) (o := .cells #[.int .i64 2, .slice Ao18 y192.length co18, .slice Ao17 y195.length co17, .slice none 0 0] 31 (0, 0)) (kl BK199) hb)
      have n20_ := aM (kB (g := gb206) (o := .cells #[.int .i64 1, .slice Ao32 y200.length co32, .slice Ao31 y203.length co31, .slice none 0 0] 31 (0, 0)) (kl BK206) hb)
      have n21_ := aM (bS (bl) hb)
      clear HO185 HO188 HO191 HO194 HO197 HO202 HO205 HO209 HO212 HO215 HO219 HO222 HO225 HO229 HO233 HO236 HO239 BK198 BK199 BK206 HB
      have HO185 := n0_
      have HO188 := n1_
      have HO191 := n2_
      have HO194 := n3_
      have HO197 := n4_
      have HO202 := n5_
      have HO205 := n6_
      have HO209 := n7_
      have HO212 := n8_
      have HO215 := n9_
      have HO219 := n10_
      have HO222 := n11_
      have HO225 := n12_
      have HO229 := n13_
      have HO233 := n14_
      have HO236 := n15_
      have HO239 := n16_
      have HO243 := n17_
      have BK198 := n18_
      have BK199 := n19_
      have BK206 := n20_
      have HB := n21_
      clear n0_ n1_ n2_ n3_ n4_ n5_ n6_ n7_ n8_ n9_ n10_ n11_ n12_ n13_ n14_ n15_ n16_ n17_ n18_ n19_ n20_ n21_ hb ho67
      refine hK.out _ _ ⟨v208, v211, v214, v218, v221, v224, v228, v232, v235, v238, v242, v245, m20_, (by rw [ha.out]; exact putSel_upk 27 hb_ rfl rfl rfl), (rl HO185), (rl HO188), (rl HO191), (rl HO194), (rl HO197), (rl HO202), (rl HO205), (kl BK198), (kl BK199), (kl BK206), (bl), fun _ => (by (with_reducible repeat (first | apply Kd.N_alloc | apply Kd.N_drewN | apply Kd.N_drew)); exact HO209.out), fun _ => (by (with_reducible repeat (first | apply Kd.N_alloc | apply Kd.N_drewN | apply Kd.N_drew)); exact HO212.out), fun _ => (by (with_reducible repeat (first | apply Kd.N_alloc | apply Kd.N_drewN | apply Kd.N_drew)); exact HO215.out), fun _ => (by (with_reducible repeat (first | apply Kd.N_alloc | apply Kd.N_drewN | apply Kd.N_drew)); exact HO219.out), fun _ => (by (with_reducible repeat (first | apply Kd.N_alloc | apply Kd.N_drewN | apply Kd.N_drew)); exact HO222.out), fun _ => (by (with_reducible repeat (first | apply Kd.N_alloc | apply Kd.N_drewN | apply Kd.N_drew)); exact HO225.out), fun _ => (rl HO229), fun _ => (by (with_reducible repeat (first | apply Kd.V_alloc | apply Kd.V_drewN | apply Kd.V_drew)); exact HO233.out), fun _ => (by (with_reducible repeat (first | apply Kd.V_alloc | apply Kd.V_drewN | apply Kd.V_drew)); exact HO236.out), fun _ => (by (with_reducible repeat (first | apply Kd.V_alloc | apply Kd.V_drewN | apply Kd.V_drew)); exact HO239.out), fun _ => (by (with_reducible repeat (first | apply Kd.N_alloc | apply Kd.N_drewN | apply Kd.N_drew)); exact HO243.out), fun h0_ => absurd ((hoff 28 (by kernel_rfl)).symm.trans h0_) (by decide), Q_X20_⟩
     refine steps_cons ?_ ?_
     ·rintro b a w' ⟨v208, v211, v214, v218, v221, v224, v228, v232, v235, v238, v242, v245, m20_, ha, Q_HO185, Q_HO188, Q_HO191, Q_HO194, Q_HO197, Q_HO202, Q_HO205, Q_BK198, Q_BK199, Q_BK206, Q_HB, Q_HO209, Q_HO212, Q_HO215, Q_HO219, Q_HO222, Q_HO225, Q_HO229, Q_HO233, Q_HO236, Q_HO239, Q_HO243, Q_HO246, Q_X20_⟩ hb_ hon hoff
      refine ⟨_, rfl, fun K hK => ?_⟩
      have e42 : a.tmps[42]? = some (v242) := by rw [ha]; exact putSel_on (e := (27, 42, v242)) 27 rfl rfl (hon 27 (by kernel_rfl)) rfl
      have e39 : a.tmps[39]? = some (.bool true) := by rw [ha]; exact putSel_on (e := (24, 39, .bool true)) 24 rfl rfl (hon 24 (by kernel_rfl)) rfl
      replace ha := aM ha
      have HO185 := aM Q_HO185
      have HO188 := aM Q_HO188
      have HO191 := aM Q_HO191
      have HO194 := aM Q_HO194
      have HO197 := aM Q_HO197
      have HO202 := aM Q_HO202
      have HO205 := aM Q_HO205
      have BK198 := aM Q_BK198
      have BK199 := aM Q_BK199
      have BK206 := aM Q_BK206
      have HB := aM Q_HB
      have HO209 := aM (Q_HO209 (hon 1 (by kernel_rfl)))
      have HO212 := aM (Q_HO212 (hon 2 (by kernel_rfl)))
      have HO215 := aM (Q_HO215 (hon 4 (by kernel_rfl)))
      have HO219 := aM (Q_HO219 (hon 9 (by kernel_rfl)))
      have HO222 := aM (Q_HO222 (hon 10 (by kernel_rfl)))
      have HO225 := aM (Q_HO225 (hon 13 (by kernel_rfl)))
      have HO229 := aM (Q_HO229 (hon 19 (by kernel_rfl)))
      have HO233 := aM (Q_HO233 (hon 20 (by kernel_rfl)))
      have HO236 := aM (Q_HO236 (hon 20 (by kernel_rfl)))
      have HO239 := aM (Q_HO239 (hon 20 (by kernel_rfl)))
      have HO243 := aM (Q_HO243 (hon 27 (by kernel_rfl)))
      obtain ⟨Ao68, co68, eo68⟩ := Kd.N_slice HO243.out
      (first | subst eo68 | (injection eo68 with f1_ f2_ f3_; have f4_ := f1_.symm; have f5_ := f3_.symm; clear f1_ f2_ f3_; subst f4_; subst f5_))
      refine goes_ Try.func10 (by kernel_rfl) rfl #[.slice Ao68 y241.length co68] (wanted_on rfl rfl rfl (e39.trans (by first | rfl | (simp [*]; done)))) rfl rfl (by first | (simp only [List.map_toArray, List.map_cons, List.map_nil, Act.eval, Array.getD_eq_getD_getElem?, Option.getD_some, e42, e39]; done) | (simp only [List.map_toArray, List.map_cons, List.map_nil, Act.eval, Array.getD_eq_getD_getElem?, Option.getD_some, e42, e39]; rfl)) ?_
      with_reducible refine (generalize_Fixed.calls _ _ y241 t244 _ ?side1 ?side2 A11.out).mono ?_
      (case side1 => repeat (first | exact (Kd.N_reads' HO243.out).2.2 | (with_reducible refine cA ?_ _) | (with_reducible refine cN ?_ _) | (with_reducible refine cD ?_)))
      (case side2 => exact (Kd.N_reads' HO243.out).2.1)
      rintro e w69 ⟨v245, rfl, ho0, hb⟩
      refine ⟨_, rfl, ?_⟩
      replace HO185 := aM (rB (rl HO185) hb)
      replace HO188 := aM (rB (rl HO188) hb)
      replace HO191 := aM (rB (rl HO191) hb)
      replace HO194 := aM (rB (rl HO194) hb)
      replace HO197 := aM (rB (rl HO197) hb)
      replace HO202 := aM (rB (rl HO202) hb)
      replace HO205 := aM (rB (rl HO205) hb)
      replace HO209 := aM (Kd.N_below (by (with_reducible repeat (first | apply Kd.N_alloc | apply Kd.N_drewN | apply Kd.N_drew)); exact HO209.out) hb)
      replace HO212 := aM (Kd.N_below (by (with_reducible repeat (first | apply Kd.N_alloc | apply Kd.N_drewN | apply Kd.N_drew)); exact HO212.out) hb)
      replace HO215 := aM (Kd.N_below (by (with_reducible repeat (first | apply Kd.N_alloc | apply Kd.N_drewN | apply Kd.N_drew)); exact HO215.out) hb)
      replace HO219 := aM (Kd.N_below (by (with_reducible repeat (first | apply Kd.N_alloc | apply Kd.N_drewN | apply Kd.N_drew)); exact HO219.out) hb)
      replace HO222 := aM (Kd.N_below (by (with_reducible repeat (first | apply Kd.N_alloc | apply Kd.N_drewN | apply Kd.N_drew)); exact HO222.out) hb)
      replace HO225 := aM (Kd.N_below (by (with_reducible repeat (first | apply Kd.N_alloc | apply Kd.N_drewN | apply Kd.N_drew)); exact HO225.out) hb)
      replace HO229 := aM (rB (rl HO229) hb)
      replace HO233 := aM (Kd.V_below (by (with_reducible repeat (first | apply Kd.V_alloc | apply Kd.V_drewN | apply Kd.V_drew)); exact HO233.out) hb)
      replace HO236 := aM (Kd.V_below (by (with_reducible repeat (first | apply Kd.V_alloc | apply Kd.V_drewN | apply Kd.V_drew)); exact HO236.out) hb)
      replace HO239 := aM (Kd.V_below (by (with_reducible repeat (first | apply Kd.V_alloc | apply Kd.V_drewN | apply Kd.V_drew)); exact HO239.out) hb)
      replace HO243 := aM (Kd.N_below (by (with_reducible repeat (first | apply Kd.N_alloc | apply Kd.N_drewN | apply Kd.N_drew)); exact HO243.out) hb)
      have HO246 := aM (Kd.R_lower ho0 (below_size (bl)))
      replace BK198 := aM (kB (g := gb198) (o := .cells #[.int .i64 t182, .slice Ao23 t183.length co23, .slice Ao24 t186.length co24, .slice Ao25 t189.length co25] 31 (0, 0)) (kl BK198) hb)
      replace BK199 := aM (kB (g := gb199) (o := .cells #[.int .i64 2, .slice Ao18 y192.length co18, .slice Ao17 y195.length co17, .slice none 0 0] 31 (0, 0)) (kl BK199) hb)
      replace BK206 := aM (kB (g := gb206) (o := .cells #[.int .i64 1, .slice Ao32 y200.length co32, .slice Ao31 y203.length co31, .slice none 0 0] 31 (0, 0)) (kl BK206) hb)
      replace HB := aM (bS (bl) hb)
      (try clear hb)
      (try clear hb2)
      (try clear hk)
      (try clear hi)
      (try clear ho0)
      obtain ⟨Ao70, co70, eo70⟩ := Kd.R_slice HO246.out
      (first | subst eo70 | (injection eo70 with f1_ f2_ f3_; have f4_ := f1_.symm; have f5_ := f3_.symm; clear f1_ f2_ f3_; subst f4_; subst f5_))
      refine hK.out _ _ ⟨v208, v211, v214, v218, v221, v224, v228, v232, v235, v238, .slice Ao68 y241.length co68, .slice Ao70 t244.length co70, m20_, (by rw [ha.out]; exact putSel_upk 28 hb_ rfl rfl rfl), (rl HO185), (rl HO188), (rl HO191), (rl HO194), (rl HO197), (rl HO202), (rl HO205), (kl BK198), (kl BK199), (kl BK206), (bl), fun _ => (by (with_reducible repeat (first | apply Kd.N_alloc | apply Kd.N_drewN | apply Kd.N_drew)); exact HO209.out), fun _ => (by (with_reducible repeat (first | apply Kd.N_alloc | apply Kd.N_drewN | apply Kd.N_drew)); exact HO212.out), fun _ => (by (with_reducible repeat (first | apply Kd.N_alloc | apply Kd.N_drewN | apply Kd.N_drew)); exact HO215.out), fun _ => (by (with_reducible repeat (first | apply Kd.N_alloc | apply Kd.N_drewN | apply Kd.N_drew)); exact HO219.out), fun _ => (by (with_reducible repeat (first | apply Kd.N_alloc | apply Kd.N_drewN | apply Kd.N_drew)); exact HO222.out), fun _ => (by (with_reducible repeat (first | apply Kd.N_alloc | apply Kd.N_drewN | apply Kd.N_drew)); exact HO225.out), fun _ => (rl HO229), fun _ => (by (with_reducible repeat (first | apply Kd.V_alloc | apply Kd.V_drewN | apply Kd.V_drew)); exact HO233.out), fun _ => (by (with_reducible repeat (first | apply Kd.V_alloc | apply Kd.V_drewN | apply Kd.V_drew)); exact HO236.out), fun _ => (by (with_reducible repeat (first | apply Kd.V_alloc | apply Kd.V_drewN | apply Kd.V_drew)); exact HO239.out), fun _ => (by (with_reducible repeat (first | apply Kd.N_alloc | apply Kd.N_drewN | apply Kd.N_drew)); exact HO243.out), fun _ => (rl HO246), Q_X20_⟩
     refine steps_cons ?_ ?_
     ·rintro b a w' ⟨v208, v211, v214, v218, v221, v224, v228, v232, v235, v238, v242, v245, m20_, ha, Q_HO185, Q_HO188, Q_HO191, Q_HO194, Q_HO197, Q_HO202, Q_HO205, Q_BK198, Q_BK199, Q_BK206, Q_HB, Q_HO209, Q_HO212, Q_HO215, Q_HO219, Q_HO222, Q_HO225, Q_HO229, Q_HO233, Q_HO236, Q_HO239, Q_HO243, Q_HO246, Q_X20_⟩ hb_ hon hoff
      refine ⟨_, rfl, fun K hK => ?_⟩
      have e43 : a.tmps[43]? = some (v245) := by rw [ha]; exact putSel_on (e := (28, 43, v245)) 28 rfl rfl (hon 28 (by kernel_rfl)) rfl
      have e39 : a.tmps[39]? = some (.bool true) := by rw [ha]; exact putSel_on (e := (24, 39, .bool true)) 24 rfl rfl (hon 24 (by kernel_rfl)) rfl
      replace ha := aM ha
      have HO185 := aM Q_HO185
      have HO188 := aM Q_HO188
      have HO191 := aM Q_HO191
      have HO194 := aM Q_HO194
      have HO197 := aM Q_HO197
      have HO202 := aM Q_HO202
      have HO205 := aM Q_HO205
      have BK198 := aM Q_BK198
      have BK199 := aM Q_BK199
      have BK206 := aM Q_BK206
      have HB := aM Q_HB
      have HO209 := aM (Q_HO209 (hon 1 (by kernel_rfl)))
      have HO212 := aM (Q_HO212 (hon 2 (by kernel_rfl)))
      have HO215 := aM (Q_HO215 (hon 4 (by kernel_rfl)))
      have HO219 := aM (Q_HO219 (hon 9 (by kernel_rfl)))
      have HO222 := aM (Q_HO222 (hon 10 (by kernel_rfl)))
      have HO225 := aM (Q_HO225 (hon 13 (by kernel_rfl)))
      have HO229 := aM (Q_HO229 (hon 19 (by kernel_rfl)))
      have HO233 := aM (Q_HO233 (hon 20 (by kernel_rfl)))
      have HO236 := aM (Q_HO236 (hon 20 (by kernel_rfl)))
      have HO239 := aM (Q_HO239 (hon 20 (by kernel_rfl)))
      have HO243 := aM (Q_HO243 (hon 27 (by kernel_rfl)))
      have HO246 := aM (Q_HO246 (hon 28 (by kernel_rfl)))
      obtain ⟨Ao29_0, co29_0, eo_⟩ := Kd.R_slice HO246.out
      subst eo_
      refine value_ (w1 := w') (v := .int .i64 (t244.length : Int)) (wanted_on rfl rfl rfl (e39.trans (by first | rfl | (simp [*]; done)))) rfl ?_ ?_
      ·go_simp
       (try simp only [i64_w])
       try rfl
      refine hK.out _ _ ⟨v208, v211, v214, v218, v221, v224, v228, v232, v235, v238, v242, .slice Ao29_0 t244.length co29_0, m20_, (by rw [ha.out]; exact putSel_upk 29 hb_ rfl rfl rfl), Q_HO185, Q_HO188, Q_HO191, Q_HO194, Q_HO197, Q_HO202, Q_HO205, Q_BK198, Q_BK199, Q_BK206, Q_HB, Q_HO209, Q_HO212, Q_HO215, Q_HO219, Q_HO222, Q_HO225, Q_HO229, Q_HO233, Q_HO236, Q_HO239, Q_HO243, Q_HO246, Q_X20_⟩
     refine steps_cons ?_ ?_
     ·rintro b a w' ⟨v208, v211, v214, v218, v221, v224, v228, v232, v235, v238, v242, v245, m20_, ha, Q_HO185, Q_HO188, Q_HO191, Q_HO194, Q_HO197, Q_HO202, Q_HO205, Q_BK198, Q_BK199, Q_BK206, Q_HB, Q_HO209, Q_HO212, Q_HO215, Q_HO219, Q_HO222, Q_HO225, Q_HO229, Q_HO233, Q_HO236, Q_HO239, Q_HO243, Q_HO246, Q_X20_⟩ hb_ hon hoff
      refine ⟨_, rfl, fun K hK => ?_⟩
      have e44 : a.tmps[44]? = some (.int .i64 (t244.length : Int)) := by rw [ha]; exact putSel_on (e := (29, 44, .int .i64 (t244.length : Int))) 29 rfl rfl (hon 29 (by kernel_rfl)) rfl
      have e39 : a.tmps[39]? = some (.bool true) := by rw [ha]; exact putSel_on (e := (24, 39, .bool true)) 24 rfl rfl (hon 24 (by kernel_rfl)) rfl
      replace ha := aM ha
      have HO185 := aM Q_HO185
      have HO188 := aM Q_HO188
      have HO191 := aM Q_HO191
      have HO194 := aM Q_HO194
      have HO197 := aM Q_HO197
      have HO202 := aM Q_HO202
      have HO205 := aM Q_HO205
      have BK198 := aM Q_BK198
      have BK199 := aM Q_BK199
      have BK206 := aM Q_BK206
      have HB := aM Q_HB
      have HO209 := aM (Q_HO209 (hon 1 (by kernel_rfl)))
      have HO212 := aM (Q_HO212 (hon 2 (by kernel_rfl)))
      have HO215 := aM (Q_HO215 (hon 4 (by kernel_rfl)))
      have HO219 := aM (Q_HO219 (hon 9 (by kernel_rfl)))
      have HO222 := aM (Q_HO222 (hon 10 (by kernel_rfl)))
      have HO225 := aM (Q_HO225 (hon 13 (by kernel_rfl)))
      have HO229 := aM (Q_HO229 (hon 19 (by kernel_rfl)))
      have HO233 := aM (Q_HO233 (hon 20 (by kernel_rfl)))
      have HO236 := aM (Q_HO236 (hon 20 (by kernel_rfl)))
      have HO239 := aM (Q_HO239 (hon 20 (by kernel_rfl)))
      have HO243 := aM (Q_HO243 (hon 27 (by kernel_rfl)))
      have HO246 := aM (Q_HO246 (hon 28 (by kernel_rfl)))
      refine value_ (w1 := w') (v := .bool ((t244.length : Int) == 4)) (wanted_on rfl rfl rfl (e39.trans (by first | rfl | (simp [*]; done)))) rfl ?_ ?_
      ·go_simp
       (try simp only [i64_w])
       try rfl
      refine hK.out _ _ ⟨v208, v211, v214, v218, v221, v224, v228, v232, v235, v238, v242, v245, m20_, (by rw [ha.out]; exact putSel_upk 30 hb_ rfl rfl rfl), Q_HO185, Q_HO188, Q_HO191, Q_HO194, Q_HO197, Q_HO202, Q_HO205, Q_BK198, Q_BK199, Q_BK206, Q_HB, Q_HO209, Q_HO212, Q_HO215, Q_HO219, Q_HO222, Q_HO225, Q_HO229, Q_HO233, Q_HO236, Q_HO239, Q_HO243, Q_HO246, Q_X20_⟩
     refine steps_cons ?_ ?_
     ·rintro b a w' ⟨v208, v211, v214, v218, v221, v224, v228, v232, v235, v238, v242, v245, m20_, ha, Q_HO185, Q_HO188, Q_HO191, Q_HO194, Q_HO197, Q_HO202, Q_HO205, Q_BK198, Q_BK199, Q_BK206, Q_HB, Q_HO209, Q_HO212, Q_HO215, Q_HO219, Q_HO222, Q_HO225, Q_HO229, Q_HO233, Q_HO236, Q_HO239, Q_HO243, Q_HO246, Q_X20_⟩ hb_ hon hoff
      refine ⟨_, rfl, fun K hK => ?_⟩
      have e39 : a.tmps[39]? = some (.bool true) := by rw [ha]; exact putSel_on (e := (24, 39, .bool true)) 24 rfl rfl (hon 24 (by kernel_rfl)) rfl
      have e45 : a.tmps[45]? = some (.bool ((t244.length : Int) == 4)) := by rw [ha]; exact putSel_on (e := (30, 45, .bool ((t244.length : Int) == 4))) 30 rfl rfl (hon 30 (by kernel_rfl)) rfl
      replace ha := aM ha
      have HO185 := aM Q_HO185
      have HO188 := aM Q_HO188
      have HO191 := aM Q_HO191
      have HO194 := aM Q_HO194
      have HO197 := aM Q_HO197
      have HO202 := aM Q_HO202
      have HO205 := aM Q_HO205
      have BK198 := aM Q_BK198
      have BK199 := aM Q_BK199
      have BK206 := aM Q_BK206
      have HB := aM Q_HB
      have HO209 := aM (Q_HO209 (hon 1 (by kernel_rfl)))
      have HO212 := aM (Q_HO212 (hon 2 (by kernel_rfl)))
      have HO215 := aM (Q_HO215 (hon 4 (by kernel_rfl)))
      have HO219 := aM (Q_HO219 (hon 9 (by kernel_rfl)))
      have HO222 := aM (Q_HO222 (hon 10 (by kernel_rfl)))
      have HO225 := aM (Q_HO225 (hon 13 (by kernel_rfl)))
      have HO229 := aM (Q_HO229 (hon 19 (by kernel_rfl)))
      have HO233 := aM (Q_HO233 (hon 20 (by kernel_rfl)))
      have HO236 := aM (Q_HO236 (hon 20 (by kernel_rfl)))
      have HO239 := aM (Q_HO239 (hon 20 (by kernel_rfl)))
      have HO243 := aM (Q_HO243 (hon 27 (by kernel_rfl)))
      have HO246 := aM (Q_HO246 (hon 28 (by kernel_rfl)))
      refine value_ (w1 := w') (v := .bool ((t244.length : Int) == 4)) (by rfl) rfl ?_ ?_
      ·go_simp
       (try simp only [i64_w])
       try rfl
      refine hK.out _ _ ⟨v208, v211, v214, v218, v221, v224, v228, v232, v235, v238, v242, v245, m20_, (by rw [ha.out]; exact putSel_upk 31 hb_ rfl rfl rfl), Q_HO185, Q_HO188, Q_HO191, Q_HO194, Q_HO197, Q_HO202, Q_HO205, Q_BK198, Q_BK199, Q_BK206, Q_HB, Q_HO209, Q_HO212, Q_HO215, Q_HO219, Q_HO222, Q_HO225, Q_HO229, Q_HO233, Q_HO236, Q_HO239, Q_HO243, Q_HO246, Q_X20_⟩
     refine steps_cons ?_ ?_
     ·rintro b a w' ⟨v208, v211, v214, v218, v221, v224, v228, v232, v235, v238, v242, v245, m20_, ha, Q_HO185, Q_HO188, Q_HO191, Q_HO194, Q_HO197, Q_HO202, Q_HO205, Q_BK198, Q_BK199, Q_BK206, Q_HB, Q_HO209, Q_HO212, Q_HO215, Q_HO219, Q_HO222, Q_HO225, Q_HO229, Q_HO233, Q_HO236, Q_HO239, Q_HO243, Q_HO246, Q_X20_⟩ hb_ hon hoff
      refine ⟨_, rfl, fun K hK => ?_⟩
      have e46 : a.tmps[46]? = some (.bool ((t244.length : Int) == 4)) := by rw [ha]; exact putSel_on (e := (31, 46, .bool ((t244.length : Int) == 4))) 31 rfl rfl (hon 31 (by kernel_rfl)) rfl
      replace ha := aM ha
      have HO185 := aM Q_HO185
      have HO188 := aM Q_HO188
      have HO191 := aM Q_HO191
      have HO194 := aM Q_HO194
      have HO197 := aM Q_HO197
      have HO202 := aM Q_HO202
      have HO205 := aM Q_HO205
      have BK198 := aM Q_BK198
      have BK199 := aM Q_BK199
      have BK206 := aM Q_BK206
      have HB := aM Q_HB
      have HO209 := aM (Q_HO209 (hon 1 (by kernel_rfl)))
      have HO212 := aM (Q_HO212 (hon 2 (by kernel_rfl)))
      have HO215 := aM (Q_HO215 (hon 4 (by kernel_rfl)))
      have HO219 := aM (Q_HO219 (hon 9 (by kernel_rfl)))
      have HO222 := aM (Q_HO222 (hon 10 (by kernel_rfl)))
      have HO225 := aM (Q_HO225 (hon 13 (by kernel_rfl)))
      have HO229 := aM (Q_HO229 (hon 19 (by kernel_rfl)))
      have HO233 := aM (Q_HO233 (hon 20 (by kernel_rfl)))
      have HO236 := aM (Q_HO236 (hon 20 (by kernel_rfl)))
      have HO239 := aM (Q_HO239 (hon 20 (by kernel_rfl)))
      have HO243 := aM (Q_HO243 (hon 27 (by kernel_rfl)))
      have HO246 := aM (Q_HO246 (hon 28 (by kernel_rfl)))
      refine value_ (w1 := w') (v := .bool ((t244.length : Int) == 4)) (by rfl) rfl ?_ ?_
      ·go_simp
       (try simp only [i64_w])
       try rfl
      refine hK.out _ _ ⟨v208, v211, v214, v218, v221, v224, v228, v232, v235, v238, v242, v245, m20_, (by rw [ha.out]; exact putSel_upk 32 hb_ rfl rfl rfl), Q_HO185, Q_HO188, Q_HO191, Q_HO194, Q_HO197, Q_HO202, Q_HO205, Q_BK198, Q_BK199, Q_BK206, Q_HB, Q_HO209, Q_HO212, Q_HO215, Q_HO219, Q_HO222, Q_HO225, Q_HO229, Q_HO233, Q_HO236, Q_HO239, Q_HO243, Q_HO246, Q_X20_⟩
     exact steps_nil
    rintro b a w70 hall ⟨v208, v211, v214, v218, v221, v224, v228, v232, v235, v238, v242, v245, m20_, ha, Q_HO185, Q_HO188, Q_HO191, Q_HO194, Q_HO197, Q_HO202, Q_HO205, Q_BK198, Q_BK199, Q_BK206, Q_HB, Q_HO209, Q_HO212, Q_HO215, Q_HO219, Q_HO222, Q_HO225, Q_HO229, Q_HO233, Q_HO236, Q_HO239, Q_HO243, Q_HO246, Q_X20_⟩
    clear BK198 BK199 BK206 HB HO185 HO188 HO191 HO194 HO197 HO202 HO205
    have hb0_ := hall 0 (by kernel_rfl)
    have hb1_ := hall 1 (by kernel_rfl)
    have hb2_ := hall 2 (by kernel_rfl)
    have hb3_ := hall 3 (by kernel_rfl)
    have hb4_ := hall 4 (by kernel_rfl)
    have hb5_ := hall 5 (by kernel_rfl)
    have hb6_ := hall 6 (by kernel_rfl)
    have hb7_ := hall 7 (by kernel_rfl)
    have hb8_ := hall 8 (by kernel_rfl)
    have hb9_ := hall 9 (by kernel_rfl)
    have hb10_ := hall 10 (by kernel_rfl)
    have hb11_ := hall 11 (by kernel_rfl)
    have hb12_ := hall 12 (by kernel_rfl)
    have hb13_ := hall 13 (by kernel_rfl)
    have hb14_ := hall 14 (by kernel_rfl)
    have hb15_ := hall 15 (by kernel_rfl)
    have hb16_ := hall 16 (by kernel_rfl)
    have hb17_ := hall 17 (by kernel_rfl)
    have hb18_ := hall 18 (by kernel_rfl)
    have hb19_ := hall 19 (by kernel_rfl)
    have hb20_ := hall 20 (by kernel_rfl)
    have hb21_ := hall 21 (by kernel_rfl)
    have hb22_ := hall 22 (by kernel_rfl)
    have hb23_ := hall 23 (by kernel_rfl)
    have hb24_ := hall 24 (by kernel_rfl)
    have hb25_ := hall 25 (by kernel_rfl)
    have hb26_ := hall 26 (by kernel_rfl)
    have hb27_ := hall 27 (by kernel_rfl)
    have hb28_ := hall 28 (by kernel_rfl)
    have hb29_ := hall 29 (by kernel_rfl)
    have hb30_ := hall 30 (by kernel_rfl)
    have hb31_ := hall 31 (by kernel_rfl)
    have hb32_ := hall 32 (by kernel_rfl)
    subst ha
    obtain rfl := Q_X20_ hb20_
    simp only [putSel, hb0_, hb1_, hb2_, hb3_, hb4_, hb5_, hb6_, hb7_, hb8_, hb9_, hb10_, hb11_, hb12_, hb13_, hb14_, hb15_, hb16_, hb17_, hb18_, hb19_, hb20_, hb21_, hb22_, hb23_, hb24_, hb25_, hb26_, hb27_, hb28_, hb29_, hb30_, hb31_, hb32_, if_true, Act.put, sA, sB, sC]
    have HO185 := aM Q_HO185
    clear Q_HO185
    have HO188 := aM Q_HO188
    clear Q_HO188
    have HO191 := aM Q_HO191
    clear Q_HO191
    have HO194 := aM Q_HO194
    clear Q_HO194
    have HO197 := aM Q_HO197
    clear Q_HO197
    have HO202 := aM Q_HO202
    clear Q_HO202
    have HO205 := aM Q_HO205
    clear Q_HO205
    have BK198 := aM Q_BK198
    clear Q_BK198
    have BK199 := aM Q_BK199
    clear Q_BK199
    have BK206 := aM Q_BK206
    clear Q_BK206
    have HB := aM Q_HB
    clear Q_HB
    have HO209 := aM (Q_HO209 hb1_)
    clear Q_HO209
    have HO212 := aM (Q_HO212 hb2_)
    clear Q_HO212
    have HO215 := aM (Q_HO215 hb4_)
    clear Q_HO215
    have HO219 := aM (Q_HO219 hb9_)
    clear Q_HO219
    have HO222 := aM (Q_HO222 hb10_)
    clear Q_HO222
    have HO225 := aM (Q_HO225 hb13_)
    clear Q_HO225
    have HO229 := aM (Q_HO229 hb19_)
    clear Q_HO229
    have HO233 := aM (Q_HO233 hb20_)
    clear Q_HO233
    have HO236 := aM (Q_HO236 hb20_)
    clear Q_HO236
    have HO239 := aM (Q_HO239 hb20_)
    clear Q_HO239
    have HO243 := aM (Q_HO243 hb27_)
    clear Q_HO243
    have HO246 := aM (Q_HO246 hb28_)
    clear Q_HO246 hall hb0_ hb1_ hb2_ hb3_ hb4_ hb5_ hb6_ hb7_ hb8_ hb9_ hb10_ hb11_ hb12_ hb13_ hb14_ hb15_ hb16_ hb17_ hb18_ hb19_ hb20_ hb21_ hb22_ hb23_ hb24_ hb25_ hb26_ hb27_ hb28_ hb29_ hb30_ hb31_ hb32_
    obtain ⟨Ao71, co71, eo71⟩ := Kd.R_slice HO246.out
    (first | subst eo71 | (injection eo71 with f1_ f2_ f3_; have f4_ := f1_.symm; have f5_ := f3_.symm; clear f1_ f2_ f3_; subst f4_; subst f5_))
    try go_wp2
    go_ret
    exact ⟨by first | rfl | (simp [errW_none, errW_some] <;> rfl) | (simp [*, errW_none, errW_some] <;> rfl), bl⟩
   ·replace c10 := Bool.eq_false_iff.mpr c10
    subst c10
    have H1 : (some false) = some r := by rw [if_neg (show ¬ (false = true) by decide)] at H; exact H
    clear H
    have H := H1
    clear H1
    obtain rfl := Option.some.inj H
    cases hT
  ·replace c7 := Bool.eq_false_iff.mpr c7
   subst c7
   have H1 : (some false) = some r := by rw [if_neg (show ¬ (false = true) by decide)] at H; exact H
   clear H
   have H := H1
   clear H1
   obtain rfl := Option.some.inj H
   cases hT
 ·replace c4 := Bool.eq_false_iff.mpr c4
  subst c4
  have H1 : (some false) = some r := by rw [if_neg (show ¬ (false = true) by decide)] at H; exact H
  clear H
  have H := H1
  clear H1
  obtain rfl := Option.some.inj H
  cases hT
def mapmakerlaw26_lives.f (k : Nat)  : Option Bool := (mapmakerlaw26_livesG.f k ).bind fun b => if b = true then some true else none
theorem mapmakerlaw26_lives.mono : ∀ k, LeO (mapmakerlaw26_lives.f k ) (mapmakerlaw26_lives.f (k + 1) ) := by
 intros
 unfold mapmakerlaw26_lives.f
 exact LeO.bind (mapmakerlaw26_livesG.mono _) (fun _ => LeO.refl _)
theorem mapmakerlaw26_lives.calls (k : Nat)  (r : Bool) (w : World) (h : mapmakerlaw26_lives.f k = some r) :
  Calls Try.prog 8 #[] w fun e w' => e = .returned (.bool r) ∧ Below w.heap.size w w' := by
 obtain ⟨b, hb, h⟩ := Option.bind_eq_some_iff.mp (show (mapmakerlaw26_livesG.f k ).bind _ = some r from h)
 cases b with
 | false => exact absurd h (by simp)
 | true =>
  obtain rfl := Option.some.inj (show some true = some r from h)
  exact mapmakerlaw26_livesG.callsT k true w  hb rfl
end Go.Proofs.Ytpgbfjndgbfhnaa.PAll
