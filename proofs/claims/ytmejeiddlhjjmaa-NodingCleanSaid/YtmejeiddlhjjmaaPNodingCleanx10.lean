-- out of a driver of this session's prover over the kit's print: Lean checks it
import Derived.Test.YtmejeiddlhjjmaaPNodingCleanx0
import Derived.Test.YtmejeiddlhjjmaaPNodingCleanx3
import Derived.Test.YtmejeiddlhjjmaaPNodingCleanx4
import Derived.Test.YtmejeiddlhjjmaaPNodingCleanx5
import Derived.Test.YtmejeiddlhjjmaaPNodingCleanx6
import Derived.Test.YtmejeiddlhjjmaaPNodingCleanx9
namespace Go.Proofs.Ytmejeiddlhjjmaa.PNodingClean
open Go.Proofs.YtmejeiddlhjjmaaG Go.Shelf Go.Lib
open Go.RowKit Go.Proofs.YtmejeiddlhjjmaaW.PrintWords Go.Proofs.YtmejeiddlhjjmaaW.PrintLast Go.Proofs.YtmejeiddlhjjmaaW.PrintMore
attribute [local go_sem] max2_int min2_int max_two min_two max_three min_three max_four min_four   -- for this text's walks alone
set_option linter.unusedVariables false
set_option linter.unusedSimpArgs false
theorem eqL36 (d : Nat) (w : World) (x0 y0 : Int) (x1 y1 : Int) (x2 y2 : Int) (x3 y3 : Int) (x4 y4 : Int) (x5 y5 : Int) (x6 y6 : Int) (x7 y7 : Int) :
  (Op.equalIn (d + 4) 36 (.agg #[.int .i64 x0, .int .i64 x1, .int .i64 x2, .int .i64 x3, .int .i64 x4, .int .i64 x5, .int .i64 x6, .int .i64 x7]) (.agg #[.int .i64 y0, .int .i64 y1, .int .i64 y2, .int .i64 y3, .int .i64 y4, .int .i64 y5, .int .i64 y6, .int .i64 y7])).run Try.prog w = .ok (((x0 == y0 && (x1 == y1)) && ((x2 == y2 && (x3 == y3)))) && (((x4 == y4 && (x5 == y5)) && ((x6 == y6 && (x7 == y7)))))) w := by
 obtain ⟨i, hi⟩ : ∃ i, Try.prog.info? 35 = some i := by
  have h := info35
  cases hq : Try.prog.info? 35 with
  | none => rw [hq] at h; cases h
  | some i => exact ⟨i, rfl⟩
 rw [run_equalIn_array (P := Try.prog) (w := w) (d + 3) _ _ Try.underlying36 hi]
 rw [show List.range 2 = [0, 1] from rfl, show Try.prog.cellsOf 35 = 4 by kernel_rfl]
 have p0 : (part 35 #[.int .i64 x0, .int .i64 x1, .int .i64 x2, .int .i64 x3, .int .i64 x4, .int .i64 x5, .int .i64 x6, .int .i64 x7] (0 * 4)).run Try.prog w = .ok (.agg #[.int .i64 x0, .int .i64 x1, .int .i64 x2, .int .i64 x3]) w := by go_simp
 have p1 : (part 35 #[.int .i64 x0, .int .i64 x1, .int .i64 x2, .int .i64 x3, .int .i64 x4, .int .i64 x5, .int .i64 x6, .int .i64 x7] (1 * 4)).run Try.prog w = .ok (.agg #[.int .i64 x4, .int .i64 x5, .int .i64 x6, .int .i64 x7]) w := by go_simp
 have q0 : (part 35 #[.int .i64 y0, .int .i64 y1, .int .i64 y2, .int .i64 y3, .int .i64 y4, .int .i64 y5, .int .i64 y6, .int .i64 y7] (0 * 4)).run Try.prog w = .ok (.agg #[.int .i64 y0, .int .i64 y1, .int .i64 y2, .int .i64 y3]) w := by go_simp
 have q1 : (part 35 #[.int .i64 y0, .int .i64 y1, .int .i64 y2, .int .i64 y3, .int .i64 y4, .int .i64 y5, .int .i64 y6, .int .i64 y7] (1 * 4)).run Try.prog w = .ok (.agg #[.int .i64 y4, .int .i64 y5, .int .i64 y6, .int .i64 y7]) w := by go_simp
 have e0 := eqG35 d w x0 y0 x1 y1 x2 y2 x3 y3
 have e1 := eqG35 d w x4 y4 x5 y5 x6 y6 x7 y7
 generalize ((x0 == y0 && (x1 == y1)) && ((x2 == y2 && (x3 == y3)))) = r0 at e0 ⊢
 generalize ((x4 == y4 && (x5 == y5)) && ((x6 == y6 && (x7 == y7)))) = r1 at e1 ⊢
 rw [Nat.one_mul] at p1 q1
 simp only [Op.eqItems, Sem.run_bind, p0, q0, e0, Result.andThen_ok]
 cases r0
 ·simp
 ·simp [p1, q1, e1]
  cases r1 <;> simp
attribute [local go_sem high] eqL36
def mapmakerlaw20_livesG.f (k : Nat)  : Option (Bool) := (mapmakerlaw20_seg.f 4 0 0 0).bind fun bt240 => ((mapmakerlaw20_seg.f 2 0 2 3).bind fun bt244 => ((some (([(⟨(⟨bt240.1, bt240.2.1⟩ : S33), (⟨bt240.2.2.1, bt240.2.2.2⟩ : S33)⟩ : S35), (⟨(⟨bt244.1, bt244.2.1⟩ : S33), (⟨bt244.2.2.1, bt244.2.2.2⟩ : S33)⟩ : S35)] : List (S35)) : List (S35))).bind fun y248 => ((mapmakerlaw20_seg.f 0 0 4 4).bind fun bt251 => ((mapmakerlaw20_seg.f 0 4 4 0).bind fun bt255 => ((some (([(⟨(⟨bt251.1, bt251.2.1⟩ : S33), (⟨bt251.2.2.1, bt251.2.2.2⟩ : S33)⟩ : S35), (⟨(⟨bt255.1, bt255.2.1⟩ : S33), (⟨bt255.2.2.1, bt255.2.2.2⟩ : S33)⟩ : S35)] : List (S35)) : List (S35))).bind fun y259 => ((noding_Crossings.f k y259).bind fun t262 => (if (t262.length : Int) = 1 then ((noding_Split.f k y248).bind fun t265 => ((mapmakerlaw20_seg.f 0 0 2 0).bind fun bt268 => ((mapmakerlaw20_seg.f 2 0 2 3).bind fun bt272 => ((mapmakerlaw20_seg.f 2 0 4 0).bind fun bt276 => ((mapmakerref20_Same.f k t265 (([(⟨(⟨bt268.1, bt268.2.1⟩ : S33), (⟨bt268.2.2.1, bt268.2.2.2⟩ : S33)⟩ : S35), (⟨(⟨bt272.1, bt272.2.1⟩ : S33), (⟨bt272.2.2.1, bt272.2.2.2⟩ : S33)⟩ : S35), (⟨(⟨bt276.1, bt276.2.1⟩ : S33), (⟨bt276.2.2.1, bt276.2.2.2⟩ : S33)⟩ : S35)] : List (S35)))).bind fun t283 => (if t283 = true then ((noding_Clean.f k y248).bind fun t284 => (if t284 = true then (some false) else ((noding_Split.f k y248).bind fun t285 => ((noding_Clean.f k t285).bind fun t288 => (if t288 = true then (if 0 < (t262.length : Int) then (if 0 < (y259.length : Int) then (if 1 < (y259.length : Int) then (if (((((rd_T36 t262 0).f0.f0.f0) == ((rd_T35 y259 0).f0.f0) && (((rd_T36 t262 0).f0.f0.f1) == ((rd_T35 y259 0).f0.f1))) && ((((rd_T36 t262 0).f0.f1.f0) == ((rd_T35 y259 0).f1.f0) && (((rd_T36 t262 0).f0.f1.f1) == ((rd_T35 y259 0).f1.f1))))) && (((((rd_T36 t262 0).f1.f0.f0) == ((rd_T35 y259 1).f0.f0) && (((rd_T36 t262 0).f1.f0.f1) == ((rd_T35 y259 1).f0.f1))) && ((((rd_T36 t262 0).f1.f1.f0) == ((rd_T35 y259 1).f1.f0) && (((rd_T36 t262 0).f1.f1.f1) == ((rd_T35 y259 1).f1.f1))))))) = true then (if 1 < (y248.length : Int) then (if 0 < (y248.length : Int) then ((noding_Odd.f k (([(⟨(⟨(rd_T35 y248 1).f0.f0, (rd_T35 y248 1).f0.f1⟩ : S33), (⟨(rd_T35 y248 1).f1.f0, (rd_T35 y248 1).f1.f1⟩ : S33)⟩ : S35), (⟨(⟨(rd_T35 y248 0).f0.f0, (rd_T35 y248 0).f0.f1⟩ : S33), (⟨(rd_T35 y248 0).f1.f0, (rd_T35 y248 0).f1.f1⟩ : S33)⟩ : S35), (⟨(⟨(rd_T35 y248 1).f0.f0, (rd_T35 y248 1).f0.f1⟩ : S33), (⟨(rd_T35 y248 1).f1.f0, (rd_T35 y248 1).f1.f1⟩ : S33)⟩ : S35)] : List (S35)))).bind fun t298 => ((mapmakerlaw20_seg.f 0 0 4 0).bind fun bt301 => ((mapmakerref20_Same.f k t298 (([(⟨(⟨bt301.1, bt301.2.1⟩ : S33), (⟨bt301.2.2.1, bt301.2.2.2⟩ : S33)⟩ : S35)] : List (S35)))).bind fun t308 => (if t308 = true then ((noding_Of.f k (([(⟨1, 0⟩ : S33), (⟨1, 0⟩ : S33), (⟨2, 0⟩ : S33)] : List (S33)))).bind fun t312 => (some ((t312.length : Int) == 1))) else (some false))))) else (none)) else (none)) else (some false)) else (none)) else (none)) else (none)) else (some false)))))) else (some false))))))) else (some false))))))))
theorem mapmakerlaw20_livesG.mono : ∀ k, LeO (mapmakerlaw20_livesG.f k ) (mapmakerlaw20_livesG.f (k + 1) ) := by
 intro  k
 unfold mapmakerlaw20_livesG.f
 repeat' first
   | (with_reducible exact mapmakerref20_Same.mono _ _ _)
   | (with_reducible exact noding_Clean.mono _ _)
   | (with_reducible exact noding_Crossings.mono _ _)
   | (with_reducible exact noding_Odd.mono _ _)
   | (with_reducible exact noding_Of.mono _ _)
   | (with_reducible exact noding_Split.mono _ _)
   | (with_reducible exact LeO.refl _)
   | (with_reducible exact LeO.none _)
   | (with_reducible refine LeO.ite ?_ ?_)
   | (with_reducible refine LeO.bind ?_ (fun _ => ?_))
   | exact mapmakerref20_Same.mono _ _ _
   | exact noding_Clean.mono _ _
   | exact noding_Crossings.mono _ _
   | exact noding_Odd.mono _ _
   | exact noding_Of.mono _ _
   | exact noding_Split.mono _ _
   | exact LeO.none _
   | refine LeO.ite ?_ ?_
   | refine LeO.bind ?_ (fun _ => ?_)
def mapmakerlaw20_livesG.T6 : Bool × List (List Nat × List Nat) := (true, [([], []), ([0], [0]), ([1], []), ([2], []), ([3], []), ([2, 3, 4], [2, 3, 4]), ([1, 5, 4], [1, 5]), ([6, 6], [6]), ([7], [7]), ([8, 7, 7], [7, 8]), ([9, 7], [7, 9]), ([7, 10], [7, 10]), ([11, 9], [11]), ([12], [12]), ([13, 12, 12], [12, 13]), ([14, 14, 12], [12, 14]), ([12, 15], [12, 15]), ([16, 15], [16]), ([17], [17]), ([18, 17], [17, 18]), ([19, 17], [17, 19]), ([17], [17]), ([21, 17], [17, 21]), ([22, 17], [17, 22]), ([17], [17]), ([24, 17], [17, 24]), ([25, 17], [17, 25]), ([23, 26, 17], [17, 23, 26]), ([20, 27, 17], [17, 20, 27]), ([17, 28], [17, 28]), ([29, 17], [29]), ([30], [30]), ([31, 30], [30, 31]), ([32, 30], [30, 32]), ([30], [30]), ([34, 30], [30, 34]), ([35, 30], [30, 35]), ([30], [30]), ([37, 30], [30, 37]), ([38, 30], [30, 38]), ([33, 36, 39, 30], [30, 33, 36, 39]), ([40, 30, 30], [30, 40]), ([41, 30], [30]), ([42, 30], [30, 42]), ([41, 43, 42, 30], [30, 41, 43]), ([30, 44], [30, 44]), ([45, 44], [45]), ([46], [46]), ([46], [46]), ([46], [46]), ([47, 48, 49, 46], [46, 47, 48, 49]), ([50, 46, 46], [46, 50]), ([51, 46], [46, 51]), ([52, 46], [46, 52]), ([46, 53], [46, 53]), ([54, 51, 0, 1, 2, 3, 4, 5, 6, 7, 8, 9, 10, 11, 12, 13, 14, 15, 16, 17, 18, 19, 20, 21, 22, 23, 24, 25, 26, 27, 28, 29, 30, 31, 32, 33, 34, 35, 36, 37, 38, 39, 40, 41, 42, 43, 44, 45, 46, 47, 48, 49, 50, 51, 52, 53, 54], [54])])
def mapmakerlaw20_livesG.B6 : List Nat := [0, 1, 3, 7, 15, 31, 63, 127, 255, 511, 1023, 2047, 4095, 8191, 16383, 32767, 65535, 131071, 262143, 524287, 1048575, 262143, 2359295, 6553599, 262143, 17039359, 50593791, 132382719, 268435455, 536870911, 1073741823, 2147483647, 4294967295, 8589934591, 2147483647, 19327352831, 53687091199, 2147483647, 139586437119, 414464344063, 1099511627775, 2199023255551, 4398046511103, 8796093022207, 17592186044415, 35184372088831, 70368744177663, 140737488355327, 140737488355327, 140737488355327, 1125899906842623, 2251799813685247, 4503599627370495, 9007199254740991, 18014398509481983, 36028797018963967]
theorem mapmakerlaw20_livesG.tab6 : rtab .any (opsOf Try.f9 6) = mapmakerlaw20_livesG.T6 := by kernel_rfl
theorem mapmakerlaw20_livesG.bits6 : waitsOk mapmakerlaw20_livesG.T6.2 mapmakerlaw20_livesG.B6 = true := by kernel_rfl
set_option maxHeartbeats 8000000 in
set_option maxRecDepth 100000 in
theorem mapmakerlaw20_livesG.callsT (k : Nat)  (r : Bool) (w : World) (h : mapmakerlaw20_livesG.f k  = some r) (hT : r = true) :
  Calls Try.prog 9 #[] w fun e w' => e = .returned (.bool r) ∧ Below w.heap.size w w' := by
 have hu36 := Try.underlying36
 have hu35 := Try.underlying35
 have hu33 := Try.underlying33
 have HB := aM (Below.refl w.heap.size w)
 have H : ((mapmakerlaw20_seg.f 4 0 0 0).bind fun bt240 => ((mapmakerlaw20_seg.f 2 0 2 3).bind fun bt244 => ((some (([(⟨(⟨bt240.1, bt240.2.1⟩ : S33), (⟨bt240.2.2.1, bt240.2.2.2⟩ : S33)⟩ : S35), (⟨(⟨bt244.1, bt244.2.1⟩ : S33), (⟨bt244.2.2.1, bt244.2.2.2⟩ : S33)⟩ : S35)] : List (S35)) : List (S35))).bind fun y248 => ((mapmakerlaw20_seg.f 0 0 4 4).bind fun bt251 => ((mapmakerlaw20_seg.f 0 4 4 0).bind fun bt255 => ((some (([(⟨(⟨bt251.1, bt251.2.1⟩ : S33), (⟨bt251.2.2.1, bt251.2.2.2⟩ : S33)⟩ : S35), (⟨(⟨bt255.1, bt255.2.1⟩ : S33), (⟨bt255.2.2.1, bt255.2.2.2⟩ : S33)⟩ : S35)] : List (S35)) : List (S35))).bind fun y259 => ((noding_Crossings.f k y259).bind fun t262 => (if (t262.length : Int) = 1 then ((noding_Split.f k y248).bind fun t265 => ((mapmakerlaw20_seg.f 0 0 2 0).bind fun bt268 => ((mapmakerlaw20_seg.f 2 0 2 3).bind fun bt272 => ((mapmakerlaw20_seg.f 2 0 4 0).bind fun bt276 => ((mapmakerref20_Same.f k t265 (([(⟨(⟨bt268.1, bt268.2.1⟩ : S33), (⟨bt268.2.2.1, bt268.2.2.2⟩ : S33)⟩ : S35), (⟨(⟨bt272.1, bt272.2.1⟩ : S33), (⟨bt272.2.2.1, bt272.2.2.2⟩ : S33)⟩ : S35), (⟨(⟨bt276.1, bt276.2.1⟩ : S33), (⟨bt276.2.2.1, bt276.2.2.2⟩ : S33)⟩ : S35)] : List (S35)))).bind fun t283 => (if t283 = true then ((noding_Clean.f k y248).bind fun t284 => (if t284 = true then (some false) else ((noding_Split.f k y248).bind fun t285 => ((noding_Clean.f k t285).bind fun t288 => (if t288 = true then (if 0 < (t262.length : Int) then (if 0 < (y259.length : Int) then (if 1 < (y259.length : Int) then (if (((((rd_T36 t262 0).f0.f0.f0) == ((rd_T35 y259 0).f0.f0) && (((rd_T36 t262 0).f0.f0.f1) == ((rd_T35 y259 0).f0.f1))) && ((((rd_T36 t262 0).f0.f1.f0) == ((rd_T35 y259 0).f1.f0) && (((rd_T36 t262 0).f0.f1.f1) == ((rd_T35 y259 0).f1.f1))))) && (((((rd_T36 t262 0).f1.f0.f0) == ((rd_T35 y259 1).f0.f0) && (((rd_T36 t262 0).f1.f0.f1) == ((rd_T35 y259 1).f0.f1))) && ((((rd_T36 t262 0).f1.f1.f0) == ((rd_T35 y259 1).f1.f0) && (((rd_T36 t262 0).f1.f1.f1) == ((rd_T35 y259 1).f1.f1))))))) = true then (if 1 < (y248.length : Int) then (if 0 < (y248.length : Int) then ((noding_Odd.f k (([(⟨(⟨(rd_T35 y248 1).f0.f0, (rd_T35 y248 1).f0.f1⟩ : S33), (⟨(rd_T35 y248 1).f1.f0, (rd_T35 y248 1).f1.f1⟩ : S33)⟩ : S35), (⟨(⟨(rd_T35 y248 0).f0.f0, (rd_T35 y248 0).f0.f1⟩ : S33), (⟨(rd_T35 y248 0).f1.f0, (rd_T35 y248 0).f1.f1⟩ : S33)⟩ : S35), (⟨(⟨(rd_T35 y248 1).f0.f0, (rd_T35 y248 1).f0.f1⟩ : S33), (⟨(rd_T35 y248 1).f1.f0, (rd_T35 y248 1).f1.f1⟩ : S33)⟩ : S35)] : List (S35)))).bind fun t298 => ((mapmakerlaw20_seg.f 0 0 4 0).bind fun bt301 => ((mapmakerref20_Same.f k t298 (([(⟨(⟨bt301.1, bt301.2.1⟩ : S33), (⟨bt301.2.2.1, bt301.2.2.2⟩ : S33)⟩ : S35)] : List (S35)))).bind fun t308 => (if t308 = true then ((noding_Of.f k (([(⟨1, 0⟩ : S33), (⟨1, 0⟩ : S33), (⟨2, 0⟩ : S33)] : List (S33)))).bind fun t312 => (some ((t312.length : Int) == 1))) else (some false))))) else (none)) else (none)) else (some false)) else (none)) else (none)) else (none)) else (some false)))))) else (some false))))))) else (some false))))))))) = some r := h
 clear h
 replace H := Option.bind_eq_some_iff.mp H
 obtain ⟨⟨t240, t241, t242, t243⟩, A10, H⟩ := H
 replace H : ((mapmakerlaw20_seg.f 2 0 2 3).bind fun bt244 => ((some (([(⟨(⟨t240, t241⟩ : S33), (⟨t242, t243⟩ : S33)⟩ : S35), (⟨(⟨bt244.1, bt244.2.1⟩ : S33), (⟨bt244.2.2.1, bt244.2.2.2⟩ : S33)⟩ : S35)] : List (S35)) : List (S35))).bind fun y248 => ((mapmakerlaw20_seg.f 0 0 4 4).bind fun bt251 => ((mapmakerlaw20_seg.f 0 4 4 0).bind fun bt255 => ((some (([(⟨(⟨bt251.1, bt251.2.1⟩ : S33), (⟨bt251.2.2.1, bt251.2.2.2⟩ : S33)⟩ : S35), (⟨(⟨bt255.1, bt255.2.1⟩ : S33), (⟨bt255.2.2.1, bt255.2.2.2⟩ : S33)⟩ : S35)] : List (S35)) : List (S35))).bind fun y259 => ((noding_Crossings.f k y259).bind fun t262 => (if (t262.length : Int) = 1 then ((noding_Split.f k y248).bind fun t265 => ((mapmakerlaw20_seg.f 0 0 2 0).bind fun bt268 => ((mapmakerlaw20_seg.f 2 0 2 3).bind fun bt272 => ((mapmakerlaw20_seg.f 2 0 4 0).bind fun bt276 => ((mapmakerref20_Same.f k t265 (([(⟨(⟨bt268.1, bt268.2.1⟩ : S33), (⟨bt268.2.2.1, bt268.2.2.2⟩ : S33)⟩ : S35), (⟨(⟨bt272.1, bt272.2.1⟩ : S33), (⟨bt272.2.2.1, bt272.2.2.2⟩ : S33)⟩ : S35), (⟨(⟨bt276.1, bt276.2.1⟩ : S33), (⟨bt276.2.2.1, bt276.2.2.2⟩ : S33)⟩ : S35)] : List (S35)))).bind fun t283 => (if t283 = true then ((noding_Clean.f k y248).bind fun t284 => (if t284 = true then (some false) else ((noding_Split.f k y248).bind fun t285 => ((noding_Clean.f k t285).bind fun t288 => (if t288 = true then (if 0 < (t262.length : Int) then (if 0 < (y259.length : Int) then (if 1 < (y259.length : Int) then (if (((((rd_T36 t262 0).f0.f0.f0) == ((rd_T35 y259 0).f0.f0) && (((rd_T36 t262 0).f0.f0.f1) == ((rd_T35 y259 0).f0.f1))) && ((((rd_T36 t262 0).f0.f1.f0) == ((rd_T35 y259 0).f1.f0) && (((rd_T36 t262 0).f0.f1.f1) == ((rd_T35 y259 0).f1.f1))))) && (((((rd_T36 t262 0).f1.f0.f0) == ((rd_T35 y259 1).f0.f0) && (((rd_T36 t262 0).f1.f0.f1) == ((rd_T35 y259 1).f0.f1))) && ((((rd_T36 t262 0).f1.f1.f0) == ((rd_T35 y259 1).f1.f0) && (((rd_T36 t262 0).f1.f1.f1) == ((rd_T35 y259 1).f1.f1))))))) = true then (if 1 < (y248.length : Int) then (if 0 < (y248.length : Int) then ((noding_Odd.f k (([(⟨(⟨(rd_T35 y248 1).f0.f0, (rd_T35 y248 1).f0.f1⟩ : S33), (⟨(rd_T35 y248 1).f1.f0, (rd_T35 y248 1).f1.f1⟩ : S33)⟩ : S35), (⟨(⟨(rd_T35 y248 0).f0.f0, (rd_T35 y248 0).f0.f1⟩ : S33), (⟨(rd_T35 y248 0).f1.f0, (rd_T35 y248 0).f1.f1⟩ : S33)⟩ : S35), (⟨(⟨(rd_T35 y248 1).f0.f0, (rd_T35 y248 1).f0.f1⟩ : S33), (⟨(rd_T35 y248 1).f1.f0, (rd_T35 y248 1).f1.f1⟩ : S33)⟩ : S35)] : List (S35)))).bind fun t298 => ((mapmakerlaw20_seg.f 0 0 4 0).bind fun bt301 => ((mapmakerref20_Same.f k t298 (([(⟨(⟨bt301.1, bt301.2.1⟩ : S33), (⟨bt301.2.2.1, bt301.2.2.2⟩ : S33)⟩ : S35)] : List (S35)))).bind fun t308 => (if t308 = true then ((noding_Of.f k (([(⟨1, 0⟩ : S33), (⟨1, 0⟩ : S33), (⟨2, 0⟩ : S33)] : List (S33)))).bind fun t312 => (some ((t312.length : Int) == 1))) else (some false))))) else (none)) else (none)) else (some false)) else (none)) else (none)) else (none)) else (some false)))))) else (some false))))))) else (some false)))))))) = some r := H
 have A1 := aM A10
 clear A10
 replace H := Option.bind_eq_some_iff.mp H
 obtain ⟨⟨t244, t245, t246, t247⟩, A20, H⟩ := H
 replace H : ((some (([(⟨(⟨t240, t241⟩ : S33), (⟨t242, t243⟩ : S33)⟩ : S35), (⟨(⟨t244, t245⟩ : S33), (⟨t246, t247⟩ : S33)⟩ : S35)] : List (S35)) : List (S35))).bind fun y248 => ((mapmakerlaw20_seg.f 0 0 4 4).bind fun bt251 => ((mapmakerlaw20_seg.f 0 4 4 0).bind fun bt255 => ((some (([(⟨(⟨bt251.1, bt251.2.1⟩ : S33), (⟨bt251.2.2.1, bt251.2.2.2⟩ : S33)⟩ : S35), (⟨(⟨bt255.1, bt255.2.1⟩ : S33), (⟨bt255.2.2.1, bt255.2.2.2⟩ : S33)⟩ : S35)] : List (S35)) : List (S35))).bind fun y259 => ((noding_Crossings.f k y259).bind fun t262 => (if (t262.length : Int) = 1 then ((noding_Split.f k y248).bind fun t265 => ((mapmakerlaw20_seg.f 0 0 2 0).bind fun bt268 => ((mapmakerlaw20_seg.f 2 0 2 3).bind fun bt272 => ((mapmakerlaw20_seg.f 2 0 4 0).bind fun bt276 => ((mapmakerref20_Same.f k t265 (([(⟨(⟨bt268.1, bt268.2.1⟩ : S33), (⟨bt268.2.2.1, bt268.2.2.2⟩ : S33)⟩ : S35), (⟨(⟨bt272.1, bt272.2.1⟩ : S33), (⟨bt272.2.2.1, bt272.2.2.2⟩ : S33)⟩ : S35), (⟨(⟨bt276.1, bt276.2.1⟩ : S33), (⟨bt276.2.2.1, bt276.2.2.2⟩ : S33)⟩ : S35)] : List (S35)))).bind fun t283 => (if t283 = true then ((noding_Clean.f k y248).bind fun t284 => (if t284 = true then (some false) else ((noding_Split.f k y248).bind fun t285 => ((noding_Clean.f k t285).bind fun t288 => (if t288 = true then (if 0 < (t262.length : Int) then (if 0 < (y259.length : Int) then (if 1 < (y259.length : Int) then (if (((((rd_T36 t262 0).f0.f0.f0) == ((rd_T35 y259 0).f0.f0) && (((rd_T36 t262 0).f0.f0.f1) == ((rd_T35 y259 0).f0.f1))) && ((((rd_T36 t262 0).f0.f1.f0) == ((rd_T35 y259 0).f1.f0) && (((rd_T36 t262 0).f0.f1.f1) == ((rd_T35 y259 0).f1.f1))))) && (((((rd_T36 t262 0).f1.f0.f0) == ((rd_T35 y259 1).f0.f0) && (((rd_T36 t262 0).f1.f0.f1) == ((rd_T35 y259 1).f0.f1))) && ((((rd_T36 t262 0).f1.f1.f0) == ((rd_T35 y259 1).f1.f0) && (((rd_T36 t262 0).f1.f1.f1) == ((rd_T35 y259 1).f1.f1))))))) = true then (if 1 < (y248.length : Int) then (if 0 < (y248.length : Int) then ((noding_Odd.f k (([(⟨(⟨(rd_T35 y248 1).f0.f0, (rd_T35 y248 1).f0.f1⟩ : S33), (⟨(rd_T35 y248 1).f1.f0, (rd_T35 y248 1).f1.f1⟩ : S33)⟩ : S35), (⟨(⟨(rd_T35 y248 0).f0.f0, (rd_T35 y248 0).f0.f1⟩ : S33), (⟨(rd_T35 y248 0).f1.f0, (rd_T35 y248 0).f1.f1⟩ : S33)⟩ : S35), (⟨(⟨(rd_T35 y248 1).f0.f0, (rd_T35 y248 1).f0.f1⟩ : S33), (⟨(rd_T35 y248 1).f1.f0, (rd_T35 y248 1).f1.f1⟩ : S33)⟩ : S35)] : List (S35)))).bind fun t298 => ((mapmakerlaw20_seg.f 0 0 4 0).bind fun bt301 => ((mapmakerref20_Same.f k t298 (([(⟨(⟨bt301.1, bt301.2.1⟩ : S33), (⟨bt301.2.2.1, bt301.2.2.2⟩ : S33)⟩ : S35)] : List (S35)))).bind fun t308 => (if t308 = true then ((noding_Of.f k (([(⟨1, 0⟩ : S33), (⟨1, 0⟩ : S33), (⟨2, 0⟩ : S33)] : List (S33)))).bind fun t312 => (some ((t312.length : Int) == 1))) else (some false))))) else (none)) else (none)) else (some false)) else (none)) else (none)) else (none)) else (some false)))))) else (some false))))))) else (some false))))))) = some r := H
 have A2 := aM A20
 clear A20
 obtain ⟨y248, hy248⟩ : ∃ y_ : List (S35), y_ = (([(⟨(⟨t240, t241⟩ : S33), (⟨t242, t243⟩ : S33)⟩ : S35), (⟨(⟨t244, t245⟩ : S33), (⟨t246, t247⟩ : S33)⟩ : S35)] : List (S35))) := ⟨_, rfl⟩
 replace H : ((mapmakerlaw20_seg.f 0 0 4 4).bind fun bt251 => ((mapmakerlaw20_seg.f 0 4 4 0).bind fun bt255 => ((some (([(⟨(⟨bt251.1, bt251.2.1⟩ : S33), (⟨bt251.2.2.1, bt251.2.2.2⟩ : S33)⟩ : S35), (⟨(⟨bt255.1, bt255.2.1⟩ : S33), (⟨bt255.2.2.1, bt255.2.2.2⟩ : S33)⟩ : S35)] : List (S35)) : List (S35))).bind fun y259 => ((noding_Crossings.f k y259).bind fun t262 => (if (t262.length : Int) = 1 then ((noding_Split.f k y248).bind fun t265 => ((mapmakerlaw20_seg.f 0 0 2 0).bind fun bt268 => ((mapmakerlaw20_seg.f 2 0 2 3).bind fun bt272 => ((mapmakerlaw20_seg.f 2 0 4 0).bind fun bt276 => ((mapmakerref20_Same.f k t265 (([(⟨(⟨bt268.1, bt268.2.1⟩ : S33), (⟨bt268.2.2.1, bt268.2.2.2⟩ : S33)⟩ : S35), (⟨(⟨bt272.1, bt272.2.1⟩ : S33), (⟨bt272.2.2.1, bt272.2.2.2⟩ : S33)⟩ : S35), (⟨(⟨bt276.1, bt276.2.1⟩ : S33), (⟨bt276.2.2.1, bt276.2.2.2⟩ : S33)⟩ : S35)] : List (S35)))).bind fun t283 => (if t283 = true then ((noding_Clean.f k y248).bind fun t284 => (if t284 = true then (some false) else ((noding_Split.f k y248).bind fun t285 => ((noding_Clean.f k t285).bind fun t288 => (if t288 = true then (if 0 < (t262.length : Int) then (if 0 < (y259.length : Int) then (if 1 < (y259.length : Int) then (if (((((rd_T36 t262 0).f0.f0.f0) == ((rd_T35 y259 0).f0.f0) && (((rd_T36 t262 0).f0.f0.f1) == ((rd_T35 y259 0).f0.f1))) && ((((rd_T36 t262 0).f0.f1.f0) == ((rd_T35 y259 0).f1.f0) && (((rd_T36 t262 0).f0.f1.f1) == ((rd_T35 y259 0).f1.f1))))) && (((((rd_T36 t262 0).f1.f0.f0) == ((rd_T35 y259 1).f0.f0) && (((rd_T36 t262 0).f1.f0.f1) == ((rd_T35 y259 1).f0.f1))) && ((((rd_T36 t262 0).f1.f1.f0) == ((rd_T35 y259 1).f1.f0) && (((rd_T36 t262 0).f1.f1.f1) == ((rd_T35 y259 1).f1.f1))))))) = true then (if 1 < (y248.length : Int) then (if 0 < (y248.length : Int) then ((noding_Odd.f k (([(⟨(⟨(rd_T35 y248 1).f0.f0, (rd_T35 y248 1).f0.f1⟩ : S33), (⟨(rd_T35 y248 1).f1.f0, (rd_T35 y248 1).f1.f1⟩ : S33)⟩ : S35), (⟨(⟨(rd_T35 y248 0).f0.f0, (rd_T35 y248 0).f0.f1⟩ : S33), (⟨(rd_T35 y248 0).f1.f0, (rd_T35 y248 0).f1.f1⟩ : S33)⟩ : S35), (⟨(⟨(rd_T35 y248 1).f0.f0, (rd_T35 y248 1).f0.f1⟩ : S33), (⟨(rd_T35 y248 1).f1.f0, (rd_T35 y248 1).f1.f1⟩ : S33)⟩ : S35)] : List (S35)))).bind fun t298 => ((mapmakerlaw20_seg.f 0 0 4 0).bind fun bt301 => ((mapmakerref20_Same.f k t298 (([(⟨(⟨bt301.1, bt301.2.1⟩ : S33), (⟨bt301.2.2.1, bt301.2.2.2⟩ : S33)⟩ : S35)] : List (S35)))).bind fun t308 => (if t308 = true then ((noding_Of.f k (([(⟨1, 0⟩ : S33), (⟨1, 0⟩ : S33), (⟨2, 0⟩ : S33)] : List (S33)))).bind fun t312 => (some ((t312.length : Int) == 1))) else (some false))))) else (none)) else (none)) else (some false)) else (none)) else (none)) else (none)) else (some false)))))) else (some false))))))) else (some false)))))) = some r := by first | (rw [hy248]; with_reducible exact H) | (have H2_ := (Option.bind_some _ _).symm.trans H; rw [hy248]; with_reducible exact H2_) | (have H2_ := (Option.bind_some _ _).symm.trans H; with_reducible exact H2_) | with_reducible exact H | (rw [hy248]; exact H) | exact H
 have Ny248 := aM hy248
 clear hy248
 replace H := Option.bind_eq_some_iff.mp H
 obtain ⟨⟨t251, t252, t253, t254⟩, A30, H⟩ := H
 replace H : ((mapmakerlaw20_seg.f 0 4 4 0).bind fun bt255 => ((some (([(⟨(⟨t251, t252⟩ : S33), (⟨t253, t254⟩ : S33)⟩ : S35), (⟨(⟨bt255.1, bt255.2.1⟩ : S33), (⟨bt255.2.2.1, bt255.2.2.2⟩ : S33)⟩ : S35)] : List (S35)) : List (S35))).bind fun y259 => ((noding_Crossings.f k y259).bind fun t262 => (if (t262.length : Int) = 1 then ((noding_Split.f k y248).bind fun t265 => ((mapmakerlaw20_seg.f 0 0 2 0).bind fun bt268 => ((mapmakerlaw20_seg.f 2 0 2 3).bind fun bt272 => ((mapmakerlaw20_seg.f 2 0 4 0).bind fun bt276 => ((mapmakerref20_Same.f k t265 (([(⟨(⟨bt268.1, bt268.2.1⟩ : S33), (⟨bt268.2.2.1, bt268.2.2.2⟩ : S33)⟩ : S35), (⟨(⟨bt272.1, bt272.2.1⟩ : S33), (⟨bt272.2.2.1, bt272.2.2.2⟩ : S33)⟩ : S35), (⟨(⟨bt276.1, bt276.2.1⟩ : S33), (⟨bt276.2.2.1, bt276.2.2.2⟩ : S33)⟩ : S35)] : List (S35)))).bind fun t283 => (if t283 = true then ((noding_Clean.f k y248).bind fun t284 => (if t284 = true then (some false) else ((noding_Split.f k y248).bind fun t285 => ((noding_Clean.f k t285).bind fun t288 => (if t288 = true then (if 0 < (t262.length : Int) then (if 0 < (y259.length : Int) then (if 1 < (y259.length : Int) then (if (((((rd_T36 t262 0).f0.f0.f0) == ((rd_T35 y259 0).f0.f0) && (((rd_T36 t262 0).f0.f0.f1) == ((rd_T35 y259 0).f0.f1))) && ((((rd_T36 t262 0).f0.f1.f0) == ((rd_T35 y259 0).f1.f0) && (((rd_T36 t262 0).f0.f1.f1) == ((rd_T35 y259 0).f1.f1))))) && (((((rd_T36 t262 0).f1.f0.f0) == ((rd_T35 y259 1).f0.f0) && (((rd_T36 t262 0).f1.f0.f1) == ((rd_T35 y259 1).f0.f1))) && ((((rd_T36 t262 0).f1.f1.f0) == ((rd_T35 y259 1).f1.f0) && (((rd_T36 t262 0).f1.f1.f1) == ((rd_T35 y259 1).f1.f1))))))) = true then (if 1 < (y248.length : Int) then (if 0 < (y248.length : Int) then ((noding_Odd.f k (([(⟨(⟨(rd_T35 y248 1).f0.f0, (rd_T35 y248 1).f0.f1⟩ : S33), (⟨(rd_T35 y248 1).f1.f0, (rd_T35 y248 1).f1.f1⟩ : S33)⟩ : S35), (⟨(⟨(rd_T35 y248 0).f0.f0, (rd_T35 y248 0).f0.f1⟩ : S33), (⟨(rd_T35 y248 0).f1.f0, (rd_T35 y248 0).f1.f1⟩ : S33)⟩ : S35), (⟨(⟨(rd_T35 y248 1).f0.f0, (rd_T35 y248 1).f0.f1⟩ : S33), (⟨(rd_T35 y248 1).f1.f0, (rd_T35 y248 1).f1.f1⟩ : S33)⟩ : S35)] : List (S35)))).bind fun t298 => ((mapmakerlaw20_seg.f 0 0 4 0).bind fun bt301 => ((mapmakerref20_Same.f k t298 (([(⟨(⟨bt301.1, bt301.2.1⟩ : S33), (⟨bt301.2.2.1, bt301.2.2.2⟩ : S33)⟩ : S35)] : List (S35)))).bind fun t308 => (if t308 = true then ((noding_Of.f k (([(⟨1, 0⟩ : S33), (⟨1, 0⟩ : S33), (⟨2, 0⟩ : S33)] : List (S33)))).bind fun t312 => (some ((t312.length : Int) == 1))) else (some false))))) else (none)) else (none)) else (some false)) else (none)) else (none)) else (none)) else (some false)))))) else (some false))))))) else (some false))))) = some r := H
 have A3 := aM A30
 clear A30
 replace H := Option.bind_eq_some_iff.mp H
 obtain ⟨⟨t255, t256, t257, t258⟩, A40, H⟩ := H
 replace H : ((some (([(⟨(⟨t251, t252⟩ : S33), (⟨t253, t254⟩ : S33)⟩ : S35), (⟨(⟨t255, t256⟩ : S33), (⟨t257, t258⟩ : S33)⟩ : S35)] : List (S35)) : List (S35))).bind fun y259 => ((noding_Crossings.f k y259).bind fun t262 => (if (t262.length : Int) = 1 then ((noding_Split.f k y248).bind fun t265 => ((mapmakerlaw20_seg.f 0 0 2 0).bind fun bt268 => ((mapmakerlaw20_seg.f 2 0 2 3).bind fun bt272 => ((mapmakerlaw20_seg.f 2 0 4 0).bind fun bt276 => ((mapmakerref20_Same.f k t265 (([(⟨(⟨bt268.1, bt268.2.1⟩ : S33), (⟨bt268.2.2.1, bt268.2.2.2⟩ : S33)⟩ : S35), (⟨(⟨bt272.1, bt272.2.1⟩ : S33), (⟨bt272.2.2.1, bt272.2.2.2⟩ : S33)⟩ : S35), (⟨(⟨bt276.1, bt276.2.1⟩ : S33), (⟨bt276.2.2.1, bt276.2.2.2⟩ : S33)⟩ : S35)] : List (S35)))).bind fun t283 => (if t283 = true then ((noding_Clean.f k y248).bind fun t284 => (if t284 = true then (some false) else ((noding_Split.f k y248).bind fun t285 => ((noding_Clean.f k t285).bind fun t288 => (if t288 = true then (if 0 < (t262.length : Int) then (if 0 < (y259.length : Int) then (if 1 < (y259.length : Int) then (if (((((rd_T36 t262 0).f0.f0.f0) == ((rd_T35 y259 0).f0.f0) && (((rd_T36 t262 0).f0.f0.f1) == ((rd_T35 y259 0).f0.f1))) && ((((rd_T36 t262 0).f0.f1.f0) == ((rd_T35 y259 0).f1.f0) && (((rd_T36 t262 0).f0.f1.f1) == ((rd_T35 y259 0).f1.f1))))) && (((((rd_T36 t262 0).f1.f0.f0) == ((rd_T35 y259 1).f0.f0) && (((rd_T36 t262 0).f1.f0.f1) == ((rd_T35 y259 1).f0.f1))) && ((((rd_T36 t262 0).f1.f1.f0) == ((rd_T35 y259 1).f1.f0) && (((rd_T36 t262 0).f1.f1.f1) == ((rd_T35 y259 1).f1.f1))))))) = true then (if 1 < (y248.length : Int) then (if 0 < (y248.length : Int) then ((noding_Odd.f k (([(⟨(⟨(rd_T35 y248 1).f0.f0, (rd_T35 y248 1).f0.f1⟩ : S33), (⟨(rd_T35 y248 1).f1.f0, (rd_T35 y248 1).f1.f1⟩ : S33)⟩ : S35), (⟨(⟨(rd_T35 y248 0).f0.f0, (rd_T35 y248 0).f0.f1⟩ : S33), (⟨(rd_T35 y248 0).f1.f0, (rd_T35 y248 0).f1.f1⟩ : S33)⟩ : S35), (⟨(⟨(rd_T35 y248 1).f0.f0, (rd_T35 y248 1).f0.f1⟩ : S33), (⟨(rd_T35 y248 1).f1.f0, (rd_T35 y248 1).f1.f1⟩ : S33)⟩ : S35)] : List (S35)))).bind fun t298 => ((mapmakerlaw20_seg.f 0 0 4 0).bind fun bt301 => ((mapmakerref20_Same.f k t298 (([(⟨(⟨bt301.1, bt301.2.1⟩ : S33), (⟨bt301.2.2.1, bt301.2.2.2⟩ : S33)⟩ : S35)] : List (S35)))).bind fun t308 => (if t308 = true then ((noding_Of.f k (([(⟨1, 0⟩ : S33), (⟨1, 0⟩ : S33), (⟨2, 0⟩ : S33)] : List (S33)))).bind fun t312 => (some ((t312.length : Int) == 1))) else (some false))))) else (none)) else (none)) else (some false)) else (none)) else (none)) else (none)) else (some false)))))) else (some false))))))) else (some false)))) = some r := H
 have A4 := aM A40
 clear A40
 obtain ⟨y259, hy259⟩ : ∃ y_ : List (S35), y_ = (([(⟨(⟨t251, t252⟩ : S33), (⟨t253, t254⟩ : S33)⟩ : S35), (⟨(⟨t255, t256⟩ : S33), (⟨t257, t258⟩ : S33)⟩ : S35)] : List (S35))) := ⟨_, rfl⟩
 replace H : ((noding_Crossings.f k y259).bind fun t262 => (if (t262.length : Int) = 1 then ((noding_Split.f k y248).bind fun t265 => ((mapmakerlaw20_seg.f 0 0 2 0).bind fun bt268 => ((mapmakerlaw20_seg.f 2 0 2 3).bind fun bt272 => ((mapmakerlaw20_seg.f 2 0 4 0).bind fun bt276 => ((mapmakerref20_Same.f k t265 (([(⟨(⟨bt268.1, bt268.2.1⟩ : S33), (⟨bt268.2.2.1, bt268.2.2.2⟩ : S33)⟩ : S35), (⟨(⟨bt272.1, bt272.2.1⟩ : S33), (⟨bt272.2.2.1, bt272.2.2.2⟩ : S33)⟩ : S35), (⟨(⟨bt276.1, bt276.2.1⟩ : S33), (⟨bt276.2.2.1, bt276.2.2.2⟩ : S33)⟩ : S35)] : List (S35)))).bind fun t283 => (if t283 = true then ((noding_Clean.f k y248).bind fun t284 => (if t284 = true then (some false) else ((noding_Split.f k y248).bind fun t285 => ((noding_Clean.f k t285).bind fun t288 => (if t288 = true then (if 0 < (t262.length : Int) then (if 0 < (y259.length : Int) then (if 1 < (y259.length : Int) then (if (((((rd_T36 t262 0).f0.f0.f0) == ((rd_T35 y259 0).f0.f0) && (((rd_T36 t262 0).f0.f0.f1) == ((rd_T35 y259 0).f0.f1))) && ((((rd_T36 t262 0).f0.f1.f0) == ((rd_T35 y259 0).f1.f0) && (((rd_T36 t262 0).f0.f1.f1) == ((rd_T35 y259 0).f1.f1))))) && (((((rd_T36 t262 0).f1.f0.f0) == ((rd_T35 y259 1).f0.f0) && (((rd_T36 t262 0).f1.f0.f1) == ((rd_T35 y259 1).f0.f1))) && ((((rd_T36 t262 0).f1.f1.f0) == ((rd_T35 y259 1).f1.f0) && (((rd_T36 t262 0).f1.f1.f1) == ((rd_T35 y259 1).f1.f1))))))) = true then (if 1 < (y248.length : Int) then (if 0 < (y248.length : Int) then ((noding_Odd.f k (([(⟨(⟨(rd_T35 y248 1).f0.f0, (rd_T35 y248 1).f0.f1⟩ : S33), (⟨(rd_T35 y248 1).f1.f0, (rd_T35 y248 1).f1.f1⟩ : S33)⟩ : S35), (⟨(⟨(rd_T35 y248 0).f0.f0, (rd_T35 y248 0).f0.f1⟩ : S33), (⟨(rd_T35 y248 0).f1.f0, (rd_T35 y248 0).f1.f1⟩ : S33)⟩ : S35), (⟨(⟨(rd_T35 y248 1).f0.f0, (rd_T35 y248 1).f0.f1⟩ : S33), (⟨(rd_T35 y248 1).f1.f0, (rd_T35 y248 1).f1.f1⟩ : S33)⟩ : S35)] : List (S35)))).bind fun t298 => ((mapmakerlaw20_seg.f 0 0 4 0).bind fun bt301 => ((mapmakerref20_Same.f k t298 (([(⟨(⟨bt301.1, bt301.2.1⟩ : S33), (⟨bt301.2.2.1, bt301.2.2.2⟩ : S33)⟩ : S35)] : List (S35)))).bind fun t308 => (if t308 = true then ((noding_Of.f k (([(⟨1, 0⟩ : S33), (⟨1, 0⟩ : S33), (⟨2, 0⟩ : S33)] : List (S33)))).bind fun t312 => (some ((t312.length : Int) == 1))) else (some false))))) else (none)) else (none)) else (some false)) else (none)) else (none)) else (none)) else (some false)))))) else (some false))))))) else (some false))) = some r := by first | (rw [hy259]; with_reducible exact H) | (have H2_ := (Option.bind_some _ _).symm.trans H; rw [hy259]; with_reducible exact H2_) | (have H2_ := (Option.bind_some _ _).symm.trans H; with_reducible exact H2_) | with_reducible exact H | (rw [hy259]; exact H) | exact H
 have Ny259 := aM hy259
 clear hy259
 replace H := Option.bind_eq_some_iff.mp H
 obtain ⟨t262, A50, H⟩ := H
 try dsimp only at H
 have A5 := aM A50
 clear A50
 by_cases c6 : (t262.length : Int) = 1
 ·rw [if_pos c6] at H
  have c6b0 : ((t262.length : Int) == 1) = true := beq_iff_eq.mpr c6
  have c6b1 : ((t262.length : Int) != 1) = false := bne_eq_false_iff_eq.mpr c6
  clear c6
  replace H := Option.bind_eq_some_iff.mp H
  obtain ⟨t265, A70, H⟩ := H
  try dsimp only at H
  have A7 := aM A70
  clear A70
  replace H := Option.bind_eq_some_iff.mp H
  obtain ⟨⟨t268, t269, t270, t271⟩, A80, H⟩ := H
  replace H : ((mapmakerlaw20_seg.f 2 0 2 3).bind fun bt272 => ((mapmakerlaw20_seg.f 2 0 4 0).bind fun bt276 => ((mapmakerref20_Same.f k t265 (([(⟨(⟨t268, t269⟩ : S33), (⟨t270, t271⟩ : S33)⟩ : S35), (⟨(⟨bt272.1, bt272.2.1⟩ : S33), (⟨bt272.2.2.1, bt272.2.2.2⟩ : S33)⟩ : S35), (⟨(⟨bt276.1, bt276.2.1⟩ : S33), (⟨bt276.2.2.1, bt276.2.2.2⟩ : S33)⟩ : S35)] : List (S35)))).bind fun t283 => (if t283 = true then ((noding_Clean.f k y248).bind fun t284 => (if t284 = true then (some false) else ((noding_Split.f k y248).bind fun t285 => ((noding_Clean.f k t285).bind fun t288 => (if t288 = true then (if 0 < (t262.length : Int) then (if 0 < (y259.length : Int) then (if 1 < (y259.length : Int) then (if (((((rd_T36 t262 0).f0.f0.f0) == ((rd_T35 y259 0).f0.f0) && (((rd_T36 t262 0).f0.f0.f1) == ((rd_T35 y259 0).f0.f1))) && ((((rd_T36 t262 0).f0.f1.f0) == ((rd_T35 y259 0).f1.f0) && (((rd_T36 t262 0).f0.f1.f1) == ((rd_T35 y259 0).f1.f1))))) && (((((rd_T36 t262 0).f1.f0.f0) == ((rd_T35 y259 1).f0.f0) && (((rd_T36 t262 0).f1.f0.f1) == ((rd_T35 y259 1).f0.f1))) && ((((rd_T36 t262 0).f1.f1.f0) == ((rd_T35 y259 1).f1.f0) && (((rd_T36 t262 0).f1.f1.f1) == ((rd_T35 y259 1).f1.f1))))))) = true then (if 1 < (y248.length : Int) then (if 0 < (y248.length : Int) then ((noding_Odd.f k (([(⟨(⟨(rd_T35 y248 1).f0.f0, (rd_T35 y248 1).f0.f1⟩ : S33), (⟨(rd_T35 y248 1).f1.f0, (rd_T35 y248 1).f1.f1⟩ : S33)⟩ : S35), (⟨(⟨(rd_T35 y248 0).f0.f0, (rd_T35 y248 0).f0.f1⟩ : S33), (⟨(rd_T35 y248 0).f1.f0, (rd_T35 y248 0).f1.f1⟩ : S33)⟩ : S35), (⟨(⟨(rd_T35 y248 1).f0.f0, (rd_T35 y248 1).f0.f1⟩ : S33), (⟨(rd_T35 y248 1).f1.f0, (rd_T35 y248 1).f1.f1⟩ : S33)⟩ : S35)] : List (S35)))).bind fun t298 => ((mapmakerlaw20_seg.f 0 0 4 0).bind fun bt301 => ((mapmakerref20_Same.f k t298 (([(⟨(⟨bt301.1, bt301.2.1⟩ : S33), (⟨bt301.2.2.1, bt301.2.2.2⟩ : S33)⟩ : S35)] : List (S35)))).bind fun t308 => (if t308 = true then ((noding_Of.f k (([(⟨1, 0⟩ : S33), (⟨1, 0⟩ : S33), (⟨2, 0⟩ : S33)] : List (S33)))).bind fun t312 => (some ((t312.length : Int) == 1))) else (some false))))) else (none)) else (none)) else (some false)) else (none)) else (none)) else (none)) else (some false)))))) else (some false))))) = some r := H
  have A8 := aM A80
  clear A80
  replace H := Option.bind_eq_some_iff.mp H
  obtain ⟨⟨t272, t273, t274, t275⟩, A90, H⟩ := H
  replace H : ((mapmakerlaw20_seg.f 2 0 4 0).bind fun bt276 => ((mapmakerref20_Same.f k t265 (([(⟨(⟨t268, t269⟩ : S33), (⟨t270, t271⟩ : S33)⟩ : S35), (⟨(⟨t272, t273⟩ : S33), (⟨t274, t275⟩ : S33)⟩ : S35), (⟨(⟨bt276.1, bt276.2.1⟩ : S33), (⟨bt276.2.2.1, bt276.2.2.2⟩ : S33)⟩ : S35)] : List (S35)))).bind fun t283 => (if t283 = true then ((noding_Clean.f k y248).bind fun t284 => (if t284 = true then (some false) else ((noding_Split.f k y248).bind fun t285 => ((noding_Clean.f k t285).bind fun t288 => (if t288 = true then (if 0 < (t262.length : Int) then (if 0 < (y259.length : Int) then (if 1 < (y259.length : Int) then (if (((((rd_T36 t262 0).f0.f0.f0) == ((rd_T35 y259 0).f0.f0) && (((rd_T36 t262 0).f0.f0.f1) == ((rd_T35 y259 0).f0.f1))) && ((((rd_T36 t262 0).f0.f1.f0) == ((rd_T35 y259 0).f1.f0) && (((rd_T36 t262 0).f0.f1.f1) == ((rd_T35 y259 0).f1.f1))))) && (((((rd_T36 t262 0).f1.f0.f0) == ((rd_T35 y259 1).f0.f0) && (((rd_T36 t262 0).f1.f0.f1) == ((rd_T35 y259 1).f0.f1))) && ((((rd_T36 t262 0).f1.f1.f0) == ((rd_T35 y259 1).f1.f0) && (((rd_T36 t262 0).f1.f1.f1) == ((rd_T35 y259 1).f1.f1))))))) = true then (if 1 < (y248.length : Int) then (if 0 < (y248.length : Int) then ((noding_Odd.f k (([(⟨(⟨(rd_T35 y248 1).f0.f0, (rd_T35 y248 1).f0.f1⟩ : S33), (⟨(rd_T35 y248 1).f1.f0, (rd_T35 y248 1).f1.f1⟩ : S33)⟩ : S35), (⟨(⟨(rd_T35 y248 0).f0.f0, (rd_T35 y248 0).f0.f1⟩ : S33), (⟨(rd_T35 y248 0).f1.f0, (rd_T35 y248 0).f1.f1⟩ : S33)⟩ : S35), (⟨(⟨(rd_T35 y248 1).f0.f0, (rd_T35 y248 1).f0.f1⟩ : S33), (⟨(rd_T35 y248 1).f1.f0, (rd_T35 y248 1).f1.f1⟩ : S33)⟩ : S35)] : List (S35)))).bind fun t298 => ((mapmakerlaw20_seg.f 0 0 4 0).bind fun bt301 => ((mapmakerref20_Same.f k t298 (([(⟨(⟨bt301.1, bt301.2.1⟩ : S33), (⟨bt301.2.2.1, bt301.2.2.2⟩ : S33)⟩ : S35)] : List (S35)))).bind fun t308 => (if t308 = true then ((noding_Of.f k (([(⟨1, 0⟩ : S33), (⟨1, 0⟩ : S33), (⟨2, 0⟩ : S33)] : List (S33)))).bind fun t312 => (some ((t312.length : Int) == 1))) else (some false))))) else (none)) else (none)) else (some false)) else (none)) else (none)) else (none)) else (some false)))))) else (some false)))) = some r := H
  have A9 := aM A90
  clear A90
  replace H := Option.bind_eq_some_iff.mp H
  obtain ⟨⟨t276, t277, t278, t279⟩, A100, H⟩ := H
  replace H : ((mapmakerref20_Same.f k t265 (([(⟨(⟨t268, t269⟩ : S33), (⟨t270, t271⟩ : S33)⟩ : S35), (⟨(⟨t272, t273⟩ : S33), (⟨t274, t275⟩ : S33)⟩ : S35), (⟨(⟨t276, t277⟩ : S33), (⟨t278, t279⟩ : S33)⟩ : S35)] : List (S35)))).bind fun t283 => (if t283 = true then ((noding_Clean.f k y248).bind fun t284 => (if t284 = true then (some false) else ((noding_Split.f k y248).bind fun t285 => ((noding_Clean.f k t285).bind fun t288 => (if t288 = true then (if 0 < (t262.length : Int) then (if 0 < (y259.length : Int) then (if 1 < (y259.length : Int) then (if (((((rd_T36 t262 0).f0.f0.f0) == ((rd_T35 y259 0).f0.f0) && (((rd_T36 t262 0).f0.f0.f1) == ((rd_T35 y259 0).f0.f1))) && ((((rd_T36 t262 0).f0.f1.f0) == ((rd_T35 y259 0).f1.f0) && (((rd_T36 t262 0).f0.f1.f1) == ((rd_T35 y259 0).f1.f1))))) && (((((rd_T36 t262 0).f1.f0.f0) == ((rd_T35 y259 1).f0.f0) && (((rd_T36 t262 0).f1.f0.f1) == ((rd_T35 y259 1).f0.f1))) && ((((rd_T36 t262 0).f1.f1.f0) == ((rd_T35 y259 1).f1.f0) && (((rd_T36 t262 0).f1.f1.f1) == ((rd_T35 y259 1).f1.f1))))))) = true then (if 1 < (y248.length : Int) then (if 0 < (y248.length : Int) then ((noding_Odd.f k (([(⟨(⟨(rd_T35 y248 1).f0.f0, (rd_T35 y248 1).f0.f1⟩ : S33), (⟨(rd_T35 y248 1).f1.f0, (rd_T35 y248 1).f1.f1⟩ : S33)⟩ : S35), (⟨(⟨(rd_T35 y248 0).f0.f0, (rd_T35 y248 0).f0.f1⟩ : S33), (⟨(rd_T35 y248 0).f1.f0, (rd_T35 y248 0).f1.f1⟩ : S33)⟩ : S35), (⟨(⟨(rd_T35 y248 1).f0.f0, (rd_T35 y248 1).f0.f1⟩ : S33), (⟨(rd_T35 y248 1).f1.f0, (rd_T35 y248 1).f1.f1⟩ : S33)⟩ : S35)] : List (S35)))).bind fun t298 => ((mapmakerlaw20_seg.f 0 0 4 0).bind fun bt301 => ((mapmakerref20_Same.f k t298 (([(⟨(⟨bt301.1, bt301.2.1⟩ : S33), (⟨bt301.2.2.1, bt301.2.2.2⟩ : S33)⟩ : S35)] : List (S35)))).bind fun t308 => (if t308 = true then ((noding_Of.f k (([(⟨1, 0⟩ : S33), (⟨1, 0⟩ : S33), (⟨2, 0⟩ : S33)] : List (S33)))).bind fun t312 => (some ((t312.length : Int) == 1))) else (some false))))) else (none)) else (none)) else (some false)) else (none)) else (none)) else (none)) else (some false)))))) else (some false))) = some r := H
  have A10 := aM A100
  clear A100
  obtain ⟨y280, hy280⟩ : ∃ y_ : List (S35), y_ = (([(⟨(⟨t268, t269⟩ : S33), (⟨t270, t271⟩ : S33)⟩ : S35), (⟨(⟨t272, t273⟩ : S33), (⟨t274, t275⟩ : S33)⟩ : S35), (⟨(⟨t276, t277⟩ : S33), (⟨t278, t279⟩ : S33)⟩ : S35)] : List (S35))) := ⟨_, rfl⟩
  replace H : ((mapmakerref20_Same.f k t265 y280).bind fun t283 => (if t283 = true then ((noding_Clean.f k y248).bind fun t284 => (if t284 = true then (some false) else ((noding_Split.f k y248).bind fun t285 => ((noding_Clean.f k t285).bind fun t288 => (if t288 = true then (if 0 < (t262.length : Int) then (if 0 < (y259.length : Int) then (if 1 < (y259.length : Int) then (if (((((rd_T36 t262 0).f0.f0.f0) == ((rd_T35 y259 0).f0.f0) && (((rd_T36 t262 0).f0.f0.f1) == ((rd_T35 y259 0).f0.f1))) && ((((rd_T36 t262 0).f0.f1.f0) == ((rd_T35 y259 0).f1.f0) && (((rd_T36 t262 0).f0.f1.f1) == ((rd_T35 y259 0).f1.f1))))) && (((((rd_T36 t262 0).f1.f0.f0) == ((rd_T35 y259 1).f0.f0) && (((rd_T36 t262 0).f1.f0.f1) == ((rd_T35 y259 1).f0.f1))) && ((((rd_T36 t262 0).f1.f1.f0) == ((rd_T35 y259 1).f1.f0) && (((rd_T36 t262 0).f1.f1.f1) == ((rd_T35 y259 1).f1.f1))))))) = true then (if 1 < (y248.length : Int) then (if 0 < (y248.length : Int) then ((noding_Odd.f k (([(⟨(⟨(rd_T35 y248 1).f0.f0, (rd_T35 y248 1).f0.f1⟩ : S33), (⟨(rd_T35 y248 1).f1.f0, (rd_T35 y248 1).f1.f1⟩ : S33)⟩ : S35), (⟨(⟨(rd_T35 y248 0).f0.f0, (rd_T35 y248 0).f0.f1⟩ : S33), (⟨(rd_T35 y248 0).f1.f0, (rd_T35 y248 0).f1.f1⟩ : S33)⟩ : S35), (⟨(⟨(rd_T35 y248 1).f0.f0, (rd_T35 y248 1).f0.f1⟩ : S33), (⟨(rd_T35 y248 1).f1.f0, (rd_T35 y248 1).f1.f1⟩ : S33)⟩ : S35)] : List (S35)))).bind fun t298 => ((mapmakerlaw20_seg.f 0 0 4 0).bind fun bt301 => ((mapmakerref20_Same.f k t298 (([(⟨(⟨bt301.1, bt301.2.1⟩ : S33), (⟨bt301.2.2.1, bt301.2.2.2⟩ : S33)⟩ : S35)] : List (S35)))).bind fun t308 => (if t308 = true then ((noding_Of.f k (([(⟨1, 0⟩ : S33), (⟨1, 0⟩ : S33), (⟨2, 0⟩ : S33)] : List (S33)))).bind fun t312 => (some ((t312.length : Int) == 1))) else (some false))))) else (none)) else (none)) else (some false)) else (none)) else (none)) else (none)) else (some false)))))) else (some false))) = some r := by first | (rw [hy280]; with_reducible exact H) | (have H2_ := (Option.bind_some _ _).symm.trans H; rw [hy280]; with_reducible exact H2_) | (have H2_ := (Option.bind_some _ _).symm.trans H; with_reducible exact H2_) | with_reducible exact H | (rw [hy280]; exact H) | exact H
  have Ny280 := aM hy280
  clear hy280
  replace H := Option.bind_eq_some_iff.mp H
  obtain ⟨t283, A110, H⟩ := H
  try dsimp only at H
  have A11 := aM A110
  clear A110
  by_cases c12 : t283 = true
  ·subst c12
   have H1 : ((noding_Clean.f k y248).bind fun t284 => (if t284 = true then (some false) else ((noding_Split.f k y248).bind fun t285 => ((noding_Clean.f k t285).bind fun t288 => (if t288 = true then (if 0 < (t262.length : Int) then (if 0 < (y259.length : Int) then (if 1 < (y259.length : Int) then (if (((((rd_T36 t262 0).f0.f0.f0) == ((rd_T35 y259 0).f0.f0) && (((rd_T36 t262 0).f0.f0.f1) == ((rd_T35 y259 0).f0.f1))) && ((((rd_T36 t262 0).f0.f1.f0) == ((rd_T35 y259 0).f1.f0) && (((rd_T36 t262 0).f0.f1.f1) == ((rd_T35 y259 0).f1.f1))))) && (((((rd_T36 t262 0).f1.f0.f0) == ((rd_T35 y259 1).f0.f0) && (((rd_T36 t262 0).f1.f0.f1) == ((rd_T35 y259 1).f0.f1))) && ((((rd_T36 t262 0).f1.f1.f0) == ((rd_T35 y259 1).f1.f0) && (((rd_T36 t262 0).f1.f1.f1) == ((rd_T35 y259 1).f1.f1))))))) = true then (if 1 < (y248.length : Int) then (if 0 < (y248.length : Int) then ((noding_Odd.f k (([(⟨(⟨(rd_T35 y248 1).f0.f0, (rd_T35 y248 1).f0.f1⟩ : S33), (⟨(rd_T35 y248 1).f1.f0, (rd_T35 y248 1).f1.f1⟩ : S33)⟩ : S35), (⟨(⟨(rd_T35 y248 0).f0.f0, (rd_T35 y248 0).f0.f1⟩ : S33), (⟨(rd_T35 y248 0).f1.f0, (rd_T35 y248 0).f1.f1⟩ : S33)⟩ : S35), (⟨(⟨(rd_T35 y248 1).f0.f0, (rd_T35 y248 1).f0.f1⟩ : S33), (⟨(rd_T35 y248 1).f1.f0, (rd_T35 y248 1).f1.f1⟩ : S33)⟩ : S35)] : List (S35)))).bind fun t298 => ((mapmakerlaw20_seg.f 0 0 4 0).bind fun bt301 => ((mapmakerref20_Same.f k t298 (([(⟨(⟨bt301.1, bt301.2.1⟩ : S33), (⟨bt301.2.2.1, bt301.2.2.2⟩ : S33)⟩ : S35)] : List (S35)))).bind fun t308 => (if t308 = true then ((noding_Of.f k (([(⟨1, 0⟩ : S33), (⟨1, 0⟩ : S33), (⟨2, 0⟩ : S33)] : List (S33)))).bind fun t312 => (some ((t312.length : Int) == 1))) else (some false))))) else (none)) else (none)) else (some false)) else (none)) else (none)) else (none)) else (some false)))))) = some r := by rw [if_pos rfl] at H; exact H
   clear H
   have H := H1
   clear H1
   replace H := Option.bind_eq_some_iff.mp H
   obtain ⟨t284, A130, H⟩ := H
   try dsimp only at H
   have A13 := aM A130
   clear A130
   by_cases c14 : t284 = true
   ·subst c14
    have H1 : (some false) = some r := by rw [if_pos rfl] at H; exact H
    clear H
    have H := H1
    clear H1
    obtain rfl := Option.some.inj H
    cases hT
   ·replace c14 := Bool.eq_false_iff.mpr c14
    subst c14
    have H1 : ((noding_Split.f k y248).bind fun t285 => ((noding_Clean.f k t285).bind fun t288 => (if t288 = true then (if 0 < (t262.length : Int) then (if 0 < (y259.length : Int) then (if 1 < (y259.length : Int) then (if (((((rd_T36 t262 0).f0.f0.f0) == ((rd_T35 y259 0).f0.f0) && (((rd_T36 t262 0).f0.f0.f1) == ((rd_T35 y259 0).f0.f1))) && ((((rd_T36 t262 0).f0.f1.f0) == ((rd_T35 y259 0).f1.f0) && (((rd_T36 t262 0).f0.f1.f1) == ((rd_T35 y259 0).f1.f1))))) && (((((rd_T36 t262 0).f1.f0.f0) == ((rd_T35 y259 1).f0.f0) && (((rd_T36 t262 0).f1.f0.f1) == ((rd_T35 y259 1).f0.f1))) && ((((rd_T36 t262 0).f1.f1.f0) == ((rd_T35 y259 1).f1.f0) && (((rd_T36 t262 0).f1.f1.f1) == ((rd_T35 y259 1).f1.f1))))))) = true then (if 1 < (y248.length : Int) then (if 0 < (y248.length : Int) then ((noding_Odd.f k (([(⟨(⟨(rd_T35 y248 1).f0.f0, (rd_T35 y248 1).f0.f1⟩ : S33), (⟨(rd_T35 y248 1).f1.f0, (rd_T35 y248 1).f1.f1⟩ : S33)⟩ : S35), (⟨(⟨(rd_T35 y248 0).f0.f0, (rd_T35 y248 0).f0.f1⟩ : S33), (⟨(rd_T35 y248 0).f1.f0, (rd_T35 y248 0).f1.f1⟩ : S33)⟩ : S35), (⟨(⟨(rd_T35 y248 1).f0.f0, (rd_T35 y248 1).f0.f1⟩ : S33), (⟨(rd_T35 y248 1).f1.f0, (rd_T35 y248 1).f1.f1⟩ : S33)⟩ : S35)] : List (S35)))).bind fun t298 => ((mapmakerlaw20_seg.f 0 0 4 0).bind fun bt301 => ((mapmakerref20_Same.f k t298 (([(⟨(⟨bt301.1, bt301.2.1⟩ : S33), (⟨bt301.2.2.1, bt301.2.2.2⟩ : S33)⟩ : S35)] : List (S35)))).bind fun t308 => (if t308 = true then ((noding_Of.f k (([(⟨1, 0⟩ : S33), (⟨1, 0⟩ : S33), (⟨2, 0⟩ : S33)] : List (S33)))).bind fun t312 => (some ((t312.length : Int) == 1))) else (some false))))) else (none)) else (none)) else (some false)) else (none)) else (none)) else (none)) else (some false)))) = some r := by rw [if_neg (show ¬ (false = true) by decide)] at H; exact H
    clear H
    have H := H1
    clear H1
    replace H := Option.bind_eq_some_iff.mp H
    obtain ⟨t285, A370, H⟩ := H
    try dsimp only at H
    have A37 := aM A370
    clear A370
    replace H := Option.bind_eq_some_iff.mp H
    obtain ⟨t288, A380, H⟩ := H
    try dsimp only at H
    have A38 := aM A380
    clear A380
    by_cases c39 : t288 = true
    ·subst c39
     have H1 : (if 0 < (t262.length : Int) then (if 0 < (y259.length : Int) then (if 1 < (y259.length : Int) then (if (((((rd_T36 t262 0).f0.f0.f0) == ((rd_T35 y259 0).f0.f0) && (((rd_T36 t262 0).f0.f0.f1) == ((rd_T35 y259 0).f0.f1))) && ((((rd_T36 t262 0).f0.f1.f0) == ((rd_T35 y259 0).f1.f0) && (((rd_T36 t262 0).f0.f1.f1) == ((rd_T35 y259 0).f1.f1))))) && (((((rd_T36 t262 0).f1.f0.f0) == ((rd_T35 y259 1).f0.f0) && (((rd_T36 t262 0).f1.f0.f1) == ((rd_T35 y259 1).f0.f1))) && ((((rd_T36 t262 0).f1.f1.f0) == ((rd_T35 y259 1).f1.f0) && (((rd_T36 t262 0).f1.f1.f1) == ((rd_T35 y259 1).f1.f1))))))) = true then (if 1 < (y248.length : Int) then (if 0 < (y248.length : Int) then ((noding_Odd.f k (([(⟨(⟨(rd_T35 y248 1).f0.f0, (rd_T35 y248 1).f0.f1⟩ : S33), (⟨(rd_T35 y248 1).f1.f0, (rd_T35 y248 1).f1.f1⟩ : S33)⟩ : S35), (⟨(⟨(rd_T35 y248 0).f0.f0, (rd_T35 y248 0).f0.f1⟩ : S33), (⟨(rd_T35 y248 0).f1.f0, (rd_T35 y248 0).f1.f1⟩ : S33)⟩ : S35), (⟨(⟨(rd_T35 y248 1).f0.f0, (rd_T35 y248 1).f0.f1⟩ : S33), (⟨(rd_T35 y248 1).f1.f0, (rd_T35 y248 1).f1.f1⟩ : S33)⟩ : S35)] : List (S35)))).bind fun t298 => ((mapmakerlaw20_seg.f 0 0 4 0).bind fun bt301 => ((mapmakerref20_Same.f k t298 (([(⟨(⟨bt301.1, bt301.2.1⟩ : S33), (⟨bt301.2.2.1, bt301.2.2.2⟩ : S33)⟩ : S35)] : List (S35)))).bind fun t308 => (if t308 = true then ((noding_Of.f k (([(⟨1, 0⟩ : S33), (⟨1, 0⟩ : S33), (⟨2, 0⟩ : S33)] : List (S33)))).bind fun t312 => (some ((t312.length : Int) == 1))) else (some false))))) else (none)) else (none)) else (some false)) else (none)) else (none)) else (none)) = some r := by rw [if_pos rfl] at H; exact H
     clear H
     have H := H1
     clear H1
     by_cases c40 : 0 < (t262.length : Int)
     ·rw [if_pos c40] at H
      have c40b0 : decide (0 < (t262.length : Int)) = true := decide_eq_true c40
      have c40b1 : decide (0 < t262.length) = true := decide_eq_true (by omega)
      clear c40
      by_cases c41 : 0 < (y259.length : Int)
      ·rw [if_pos c41] at H
       have c41b0 : decide (0 < (y259.length : Int)) = true := decide_eq_true c41
       have c41b1 : decide (0 < y259.length) = true := decide_eq_true (by omega)
       clear c41
       by_cases c42 : 1 < (y259.length : Int)
       ·rw [if_pos c42] at H
        have c42b0 : decide (1 < (y259.length : Int)) = true := decide_eq_true c42
        have c42b1 : decide (1 < y259.length) = true := decide_eq_true (by omega)
        clear c42
        by_cases c43 : (((((rd_T36 t262 0).f0.f0.f0) == ((rd_T35 y259 0).f0.f0) && (((rd_T36 t262 0).f0.f0.f1) == ((rd_T35 y259 0).f0.f1))) && ((((rd_T36 t262 0).f0.f1.f0) == ((rd_T35 y259 0).f1.f0) && (((rd_T36 t262 0).f0.f1.f1) == ((rd_T35 y259 0).f1.f1))))) && (((((rd_T36 t262 0).f1.f0.f0) == ((rd_T35 y259 1).f0.f0) && (((rd_T36 t262 0).f1.f0.f1) == ((rd_T35 y259 1).f0.f1))) && ((((rd_T36 t262 0).f1.f1.f0) == ((rd_T35 y259 1).f1.f0) && (((rd_T36 t262 0).f1.f1.f1) == ((rd_T35 y259 1).f1.f1))))))) = true
        ·rw [if_pos c43] at H
         have c43b0 : (((((rd_T36 t262 0).f0.f0.f0) == ((rd_T35 y259 0).f0.f0) && (((rd_T36 t262 0).f0.f0.f1) == ((rd_T35 y259 0).f0.f1))) && ((((rd_T36 t262 0).f0.f1.f0) == ((rd_T35 y259 0).f1.f0) && (((rd_T36 t262 0).f0.f1.f1) == ((rd_T35 y259 0).f1.f1))))) && (((((rd_T36 t262 0).f1.f0.f0) == ((rd_T35 y259 1).f0.f0) && (((rd_T36 t262 0).f1.f0.f1) == ((rd_T35 y259 1).f0.f1))) && ((((rd_T36 t262 0).f1.f1.f0) == ((rd_T35 y259 1).f1.f0) && (((rd_T36 t262 0).f1.f1.f1) == ((rd_T35 y259 1).f1.f1))))))) = true := c43
         clear c43
         by_cases c44 : 1 < (y248.length : Int)
         ·rw [if_pos c44] at H
          have c44b0 : decide (1 < (y248.length : Int)) = true := decide_eq_true c44
          have c44b1 : decide (1 < y248.length) = true := decide_eq_true (by omega)
          clear c44
          by_cases c45 : 0 < (y248.length : Int)
          ·rw [if_pos c45] at H
           have c45b0 : decide (0 < (y248.length : Int)) = true := decide_eq_true c45
           have c45b1 : decide (0 < y248.length) = true := decide_eq_true (by omega)
           clear c45
           obtain ⟨y295, hy295⟩ : ∃ y_ : List (S35), y_ = (([(⟨(⟨(rd_T35 y248 1).f0.f0, (rd_T35 y248 1).f0.f1⟩ : S33), (⟨(rd_T35 y248 1).f1.f0, (rd_T35 y248 1).f1.f1⟩ : S33)⟩ : S35), (⟨(⟨(rd_T35 y248 0).f0.f0, (rd_T35 y248 0).f0.f1⟩ : S33), (⟨(rd_T35 y248 0).f1.f0, (rd_T35 y248 0).f1.f1⟩ : S33)⟩ : S35), (⟨(⟨(rd_T35 y248 1).f0.f0, (rd_T35 y248 1).f0.f1⟩ : S33), (⟨(rd_T35 y248 1).f1.f0, (rd_T35 y248 1).f1.f1⟩ : S33)⟩ : S35)] : List (S35))) := ⟨_, rfl⟩
           replace H : ((noding_Odd.f k y295).bind fun t298 => ((mapmakerlaw20_seg.f 0 0 4 0).bind fun bt301 => ((mapmakerref20_Same.f k t298 (([(⟨(⟨bt301.1, bt301.2.1⟩ : S33), (⟨bt301.2.2.1, bt301.2.2.2⟩ : S33)⟩ : S35)] : List (S35)))).bind fun t308 => (if t308 = true then ((noding_Of.f k (([(⟨1, 0⟩ : S33), (⟨1, 0⟩ : S33), (⟨2, 0⟩ : S33)] : List (S33)))).bind fun t312 => (some ((t312.length : Int) == 1))) else (some false))))) = some r := by first | (rw [hy295]; with_reducible exact H) | (have H2_ := (Option.bind_some _ _).symm.trans H; rw [hy295]; with_reducible exact H2_) | (have H2_ := (Option.bind_some _ _).symm.trans H; with_reducible exact H2_) | with_reducible exact H | (rw [hy295]; exact H) | exact H
           have Ny295 := aM hy295
           clear hy295
           replace H := Option.bind_eq_some_iff.mp H
           obtain ⟨t298, A460, H⟩ := H
           try dsimp only at H
           have A46 := aM A460
           clear A460
           replace H := Option.bind_eq_some_iff.mp H
           obtain ⟨⟨t301, t302, t303, t304⟩, A470, H⟩ := H
           replace H : ((mapmakerref20_Same.f k t298 (([(⟨(⟨t301, t302⟩ : S33), (⟨t303, t304⟩ : S33)⟩ : S35)] : List (S35)))).bind fun t308 => (if t308 = true then ((noding_Of.f k (([(⟨1, 0⟩ : S33), (⟨1, 0⟩ : S33), (⟨2, 0⟩ : S33)] : List (S33)))).bind fun t312 => (some ((t312.length : Int) == 1))) else (some false))) = some r := H
           have A47 := aM A470
           clear A470
           obtain ⟨y305, hy305⟩ : ∃ y_ : List (S35), y_ = (([(⟨(⟨t301, t302⟩ : S33), (⟨t303, t304⟩ : S33)⟩ : S35)] : List (S35))) := ⟨_, rfl⟩
           replace H : ((mapmakerref20_Same.f k t298 y305).bind fun t308 => (if t308 = true then ((noding_Of.f k (([(⟨1, 0⟩ : S33), (⟨1, 0⟩ : S33), (⟨2, 0⟩ : S33)] : List (S33)))).bind fun t312 => (some ((t312.length : Int) == 1))) else (some false))) = some r := by first | (rw [hy305]; with_reducible exact H) | (have H2_ := (Option.bind_some _ _).symm.trans H; rw [hy305]; with_reducible exact H2_) | (have H2_ := (Option.bind_some _ _).symm.trans H; with_reducible exact H2_) | with_reducible exact H | (rw [hy305]; exact H) | exact H
           have Ny305 := aM hy305
           clear hy305
           replace H := Option.bind_eq_some_iff.mp H
           obtain ⟨t308, A480, H⟩ := H
           try dsimp only at H
           have A48 := aM A480
           clear A480
           by_cases c49 : t308 = true
           ·subst c49
            have H1 : ((noding_Of.f k (([(⟨1, 0⟩ : S33), (⟨1, 0⟩ : S33), (⟨2, 0⟩ : S33)] : List (S33)))).bind fun t312 => (some ((t312.length : Int) == 1))) = some r := by rw [if_pos rfl] at H; exact H
            clear H
            have H := H1
            clear H1
            obtain ⟨y309, hy309⟩ : ∃ y_ : List (S33), y_ = (([(⟨1, 0⟩ : S33), (⟨1, 0⟩ : S33), (⟨2, 0⟩ : S33)] : List (S33))) := ⟨_, rfl⟩
            replace H : ((noding_Of.f k y309).bind fun t312 => (some ((t312.length : Int) == 1))) = some r := by first | (rw [hy309]; with_reducible exact H) | (have H2_ := (Option.bind_some _ _).symm.trans H; rw [hy309]; with_reducible exact H2_) | (have H2_ := (Option.bind_some _ _).symm.trans H; with_reducible exact H2_) | with_reducible exact H | (rw [hy309]; exact H) | exact H
            have Ny309 := aM hy309
            clear hy309
            replace H := Option.bind_eq_some_iff.mp H
            obtain ⟨t312, A500, H⟩ := H
            try dsimp only at H
            have A50 := aM A500
            clear A500
            obtain rfl := Option.some.inj H
            go_enter Try.func9, Try.ntmps9
            try go_wp2_with (first | ((with_reducible refine gate_callee (f := 28) rfl ?_); refine goesL_ (some 4) rfl rfl Try.func28 (by kernel_rfl) rfl #[.int .i64 4, .int .i64 0, .int .i64 0, .int .i64 0] rfl (by (try simp only [List.map_toArray, List.map_cons, List.map_nil]); first | done | rfl | (simp only [List.length_drop, List.length_take]; rfl)) ?_; (with_reducible refine (mapmakerlaw20_seg.calls 4 0 0 0 t240 t241 t242 t243 _ A1.out).mono ?_); rintro e w51 ⟨rfl, hb⟩; refine ⟨_, rfl, ?_⟩; replace HB := aM (bS (bl) hb); (try clear hb); (try clear hb2); (try clear hk); (try clear hi)) | ((with_reducible refine gate_callee (f := 28) rfl ?_); refine goesL_ (some 5) rfl rfl Try.func28 (by kernel_rfl) rfl #[.int .i64 2, .int .i64 0, .int .i64 2, .int .i64 3] rfl (by (try simp only [List.map_toArray, List.map_cons, List.map_nil]); first | done | rfl | (simp only [List.length_drop, List.length_take]; rfl)) ?_; (with_reducible refine (mapmakerlaw20_seg.calls 2 0 2 3 t244 t245 t246 t247 _ A2.out).mono ?_); rintro e w52 ⟨rfl, hb⟩; refine ⟨_, rfl, ?_⟩; replace HB := aM (bS (bl) hb); (try clear hb); (try clear hb2); (try clear hk); (try clear hi)) | ((with_reducible refine gate_dst (N := 6) rfl ?_); (try (refine gate_guard (by rfl) ?_; dsimp only)); refine Kd.R_lit k35 _ 35 ?hg (N := 6) ?hd (xs := ([(⟨(⟨t240, t241⟩ : S33), (⟨t242, t243⟩ : S33)⟩ : S35), (⟨(⟨t244, t245⟩ : S33), (⟨t246, t247⟩ : S33)⟩ : S35)] : List (S35))) (inner := [.int .i64 t240, .int .i64 t241, .int .i64 t242, .int .i64 t243, .int .i64 t244, .int .i64 t245, .int .i64 t246, .int .i64 t247]) (ok := fun _ => True) (okp := fun _ => True) ?hr ?hp (fun _ hk => hk) trivial (Below.refl _ _) (Nat.le_refl _) (by simp) ?_; (case hd => rfl); (case hg => rfl); (case hr => first | (go_simp; done) | (go_simp; rfl)); (case hp => exact (Reps.c4 (show Kd.M k35 _ _ _ (⟨(⟨t240, t241⟩ : S33), (⟨t242, t243⟩ : S33)⟩ : S35) [.int .i64 t240, .int .i64 t241, .int .i64 t242, .int .i64 t243] from (k35_mkM _ _ _ (⟨(⟨t240, t241⟩ : S33), (⟨t242, t243⟩ : S33)⟩ : S35) )) (Reps.c4 (show Kd.M k35 _ _ _ (⟨(⟨t244, t245⟩ : S33), (⟨t246, t247⟩ : S33)⟩ : S35) [.int .i64 t244, .int .i64 t245, .int .i64 t246, .int .i64 t247] from (k35_mkM _ _ _ (⟨(⟨t244, t245⟩ : S33), (⟨t246, t247⟩ : S33)⟩ : S35) )) (Reps.none _ _)))); intro v249 w53 ho54 hb hg_ hnew_; clear hg_ hnew_; (first | rw [← Ny248.out] at ho54 | (simp only [Int.reduceToNat] at ho54; rw [← Ny248.out] at ho54)); have n0_ := aM (Kd.R_lower ho54 (below_size (bl))); have n1_ := aM (bS (bl) hb); clear HB; have HO250 := n0_; have HB := n1_; clear n0_ n1_ hb ho54) | ((with_reducible refine gate_callee (f := 28) rfl ?_); refine goesL_ (some 7) rfl rfl Try.func28 (by kernel_rfl) rfl #[.int .i64 0, .int .i64 0, .int .i64 4, .int .i64 4] rfl (by (try simp only [List.map_toArray, List.map_cons, List.map_nil]); first | done | rfl | (simp only [List.length_drop, List.length_take]; rfl)) ?_; (with_reducible refine (mapmakerlaw20_seg.calls 0 0 4 4 t251 t252 t253 t254 _ A3.out).mono ?_); rintro e w55 ⟨rfl, hb⟩; refine ⟨_, rfl, ?_⟩; have n0_ := aM (rB (rl HO250) hb); have n1_ := aM (bS (bl) hb); clear HO250 HB; have HO250 := n0_; have HB := n1_; clear n0_ n1_; (try clear hb); (try clear hb2); (try clear hk); (try clear hi)) | ((with_reducible refine gate_callee (f := 28) rfl ?_); refine goesL_ (some 8) rfl rfl Try.func28 (by kernel_rfl) rfl #[.int .i64 0, .int .i64 4, .int .i64 4, .int .i64 0] rfl (by (try simp only [List.map_toArray, List.map_cons, List.map_nil]); first | done | rfl | (simp only [List.length_drop, List.length_take]; rfl)) ?_; (with_reducible refine (mapmakerlaw20_seg.calls 0 4 4 0 t255 t256 t257 t258 _ A4.out).mono ?_); rintro e w56 ⟨rfl, hb⟩; refine ⟨_, rfl, ?_⟩; replace HO250 := aM (rB (rl HO250) hb); replace HB := aM (bS (bl) hb); (try clear hb); (try clear hb2); (try clear hk); (try clear hi)) | ((with_reducible refine gate_dst (N := 9) rfl ?_); (try (refine gate_guard (by rfl) ?_; dsimp only)); refine Kd.R_lit k35 _ 35 ?hg (N := 9) ?hd (xs := ([(⟨(⟨t251, t252⟩ : S33), (⟨t253, t254⟩ : S33)⟩ : S35), (⟨(⟨t255, t256⟩ : S33), (⟨t257, t258⟩ : S33)⟩ : S35)] : List (S35))) (inner := [.int .i64 t251, .int .i64 t252, .int .i64 t253, .int .i64 t254, .int .i64 t255, .int .i64 t256, .int .i64 t257, .int .i64 t258]) (ok := fun _ => True) (okp := fun _ => True) ?hr ?hp (fun _ hk => hk) trivial (Below.refl _ _) (Nat.le_refl _) (by simp) ?_; (case hd => rfl); (case hg => rfl); (case hr => first | (go_simp; done) | (go_simp; rfl)); (case hp => exact (Reps.c4 (show Kd.M k35 _ _ _ (⟨(⟨t251, t252⟩ : S33), (⟨t253, t254⟩ : S33)⟩ : S35) [.int .i64 t251, .int .i64 t252, .int .i64 t253, .int .i64 t254] from (k35_mkM _ _ _ (⟨(⟨t251, t252⟩ : S33), (⟨t253, t254⟩ : S33)⟩ : S35) )) (Reps.c4 (show Kd.M k35 _ _ _ (⟨(⟨t255, t256⟩ : S33), (⟨t257, t258⟩ : S33)⟩ : S35) [.int .i64 t255, .int .i64 t256, .int .i64 t257, .int .i64 t258] from (k35_mkM _ _ _ (⟨(⟨t255, t256⟩ : S33), (⟨t257, t258⟩ : S33)⟩ : S35) )) (Reps.none _ _)))); intro v260 w57 ho58 hb hg_ hnew_; clear hg_ hnew_; (first | rw [← Ny259.out] at ho58 | (simp only [Int.reduceToNat] at ho58; rw [← Ny259.out] at ho58)); have n0_ := aM (rE (rl HO250) (Kd.R_base ho58) hb); have n1_ := aM (Kd.R_lower (Kd.R_new' ho58 (Kd.R_lt (rl HO250))) (below_size (bl))); have n2_ := aM (bS (bl) hb); clear HO250 HB; have HO250 := n0_; have HO261 := n1_; have HB := n2_; clear n0_ n1_ n2_ hb ho58; obtain ⟨Ao59, co59, eo59⟩ := Kd.R_slice HO261.out; subst eo59) | ((with_reducible refine gate_callee (f := 23) rfl ?_); refine goesL_ (some 11) rfl rfl Try.func23 (by kernel_rfl) rfl #[.slice Ao59 y259.length co59] rfl (by (try simp only [List.map_toArray, List.map_cons, List.map_nil]); first | done | rfl | (simp only [List.length_drop, List.length_take]; rfl)) ?_; (with_reducible refine (noding_Crossings.calls k _ _ y259 t262 _ ?side1 ?side2 A5.out).mono ?_); (case side1 => repeat (first | exact (rR HO261.out).2.2 | (with_reducible refine cA ?_ _) | (with_reducible refine cN ?_ _) | (with_reducible refine cD ?_))); (case side2 => exact (rR HO261.out).2.1); rintro e w60 ⟨v263, rfl, ho0, hb⟩; refine ⟨_, rfl, ?_⟩; have n0_ := aM (rB (rl HO250) hb); have n1_ := aM (rB (rl HO261) hb); have n2_ := aM (Kd.R_lower ho0 (below_size (bl))); have n3_ := aM (bS (bl) hb); clear HO250 HO261 HB; have HO250 := n0_; have HO261 := n1_; have HO264 := n2_; have HB := n3_; clear n0_ n1_ n2_ n3_; (try clear hb); (try clear hb2); (try clear hk); (try clear hi); (try clear ho0); obtain ⟨Ao61, co61, eo61⟩ := Kd.R_slice HO264.out; subst eo61))
            replace HO250 := aM (rD HO250.out)
            replace HO261 := aM (rD HO261.out)
            replace HO264 := aM (rD HO264.out)
            replace HB := aM (bD HB.out)
            obtain ⟨Ao63, co63, eo63⟩ := Kd.R_slice HO250.out
            (first | subst eo63 | (injection eo63 with f1_ f2_ f3_; have f4_ := f1_.symm; have f5_ := f3_.symm; clear f1_ f2_ f3_; subst f4_; subst f5_))
            have p289 : 0 ≤ (0 : Int) := (by omega)
            have q289 : 0 < (t262.length : Int) := of_decide_eq_true (by first | (with_reducible assumption) | assumption)
            obtain ⟨ad289, e289, hx289_0, hx289_1, hx289_2, hx289_3, hx289_4, hx289_5, hx289_6, hx289_7⟩ := at_T36 (rR HO264.out).2.2 0 p289 q289
            cases e289
            have qi289 : (0 < t262.length) = True := eq_true (by omega)
            (try rw [show ((0 : Int)).toNat = 0 from rfl] at hx289_0)
            (try rw [show 0 * 8 = 0 from rfl] at hx289_0)
            (try rw [Addr.add_zero'] at hx289_0)
            (try rw [show ((0 : Int)).toNat = 0 from rfl] at hx289_1)
            (try rw [show 0 * 8 = 0 from rfl] at hx289_1)
            (try rw [Addr.add_zero'] at hx289_1)
            (try rw [show ((0 : Int)).toNat = 0 from rfl] at hx289_2)
            (try rw [show 0 * 8 = 0 from rfl] at hx289_2)
            (try rw [Addr.add_zero'] at hx289_2)
            (try rw [show ((0 : Int)).toNat = 0 from rfl] at hx289_3)
            (try rw [show 0 * 8 = 0 from rfl] at hx289_3)
            (try rw [Addr.add_zero'] at hx289_3)
            (try rw [show ((0 : Int)).toNat = 0 from rfl] at hx289_4)
            (try rw [show 0 * 8 = 0 from rfl] at hx289_4)
            (try rw [Addr.add_zero'] at hx289_4)
            (try rw [show ((0 : Int)).toNat = 0 from rfl] at hx289_5)
            (try rw [show 0 * 8 = 0 from rfl] at hx289_5)
            (try rw [Addr.add_zero'] at hx289_5)
            (try rw [show ((0 : Int)).toNat = 0 from rfl] at hx289_6)
            (try rw [show 0 * 8 = 0 from rfl] at hx289_6)
            (try rw [Addr.add_zero'] at hx289_6)
            (try rw [show ((0 : Int)).toNat = 0 from rfl] at hx289_7)
            (try rw [show 0 * 8 = 0 from rfl] at hx289_7)
            (try rw [Addr.add_zero'] at hx289_7)
            replace p289 := eq_true p289
            replace q289 := eq_true q289
            have p290 : 0 ≤ (0 : Int) := (by omega)
            have q290 : 0 < (y259.length : Int) := of_decide_eq_true (by first | (with_reducible assumption) | assumption)
            obtain ⟨ad290, e290, hx290_0, hx290_1, hx290_2, hx290_3⟩ := at_T35 (rR HO261.out).2.2 0 p290 q290
            cases e290
            have qi290 : (0 < y259.length) = True := eq_true (by omega)
            (try rw [show ((0 : Int)).toNat = 0 from rfl] at hx290_0)
            (try rw [show 0 * 4 = 0 from rfl] at hx290_0)
            (try rw [Addr.add_zero'] at hx290_0)
            (try rw [show ((0 : Int)).toNat = 0 from rfl] at hx290_1)
            (try rw [show 0 * 4 = 0 from rfl] at hx290_1)
            (try rw [Addr.add_zero'] at hx290_1)
            (try rw [show ((0 : Int)).toNat = 0 from rfl] at hx290_2)
            (try rw [show 0 * 4 = 0 from rfl] at hx290_2)
            (try rw [Addr.add_zero'] at hx290_2)
            (try rw [show ((0 : Int)).toNat = 0 from rfl] at hx290_3)
            (try rw [show 0 * 4 = 0 from rfl] at hx290_3)
            (try rw [Addr.add_zero'] at hx290_3)
            replace p290 := eq_true p290
            replace q290 := eq_true q290
            have p291 : 0 ≤ (1 : Int) := (by omega)
            have q291 : 1 < (y259.length : Int) := of_decide_eq_true (by first | (with_reducible assumption) | assumption)
            obtain ⟨ad291, e291, hx291_0, hx291_1, hx291_2, hx291_3⟩ := at_T35 (rR HO261.out).2.2 1 p291 q291
            obtain rfl : ad290 = ad291 := (by injection e291)
            (try simp only [show (1 : Int).toNat = 1 from rfl, Nat.reduceMul, Nat.reduceEqDiff, Go.Addr.add, ↓reduceIte] at hx291_0)
            (try simp only [show (1 : Int).toNat = 1 from rfl, Nat.reduceMul, Nat.reduceEqDiff, Go.Addr.add, ↓reduceIte] at hx291_1)
            (try simp only [show (1 : Int).toNat = 1 from rfl, Nat.reduceMul, Nat.reduceEqDiff, Go.Addr.add, ↓reduceIte] at hx291_2)
            (try simp only [show (1 : Int).toNat = 1 from rfl, Nat.reduceMul, Nat.reduceEqDiff, Go.Addr.add, ↓reduceIte] at hx291_3)
            have qi291 : (1 < y259.length) = True := eq_true (by omega)
            (try rw [show ((1 : Int)).toNat = 1 from rfl] at hx291_0)
            (try rw [show 1 * 4 = 4 from rfl] at hx291_0)
            (try rw [show ((1 : Int)).toNat = 1 from rfl] at hx291_1)
            (try rw [show 1 * 4 = 4 from rfl] at hx291_1)
            (try rw [show ((1 : Int)).toNat = 1 from rfl] at hx291_2)
            (try rw [show 1 * 4 = 4 from rfl] at hx291_2)
            (try rw [show ((1 : Int)).toNat = 1 from rfl] at hx291_3)
            (try rw [show 1 * 4 = 4 from rfl] at hx291_3)
            replace p291 := eq_true p291
            replace q291 := eq_true q291
            have p292 : 0 ≤ (1 : Int) := (by omega)
            have q292 : 1 < (y248.length : Int) := of_decide_eq_true (by first | (with_reducible assumption) | assumption)
            obtain ⟨ad292, e292, hx292_0, hx292_1, hx292_2, hx292_3⟩ := at_T35 (rR HO250.out).2.2 1 p292 q292
            cases e292
            (try simp only [show (1 : Int).toNat = 1 from rfl, Nat.reduceMul, Nat.reduceEqDiff, Go.Addr.add, ↓reduceIte] at hx292_0)
            (try simp only [show (1 : Int).toNat = 1 from rfl, Nat.reduceMul, Nat.reduceEqDiff, Go.Addr.add, ↓reduceIte] at hx292_1)
            (try simp only [show (1 : Int).toNat = 1 from rfl, Nat.reduceMul, Nat.reduceEqDiff, Go.Addr.add, ↓reduceIte] at hx292_2)
            (try simp only [show (1 : Int).toNat = 1 from rfl, Nat.reduceMul, Nat.reduceEqDiff, Go.Addr.add, ↓reduceIte] at hx292_3)
            have qi292 : (1 < y248.length) = True := eq_true (by omega)
            (try rw [show ((1 : Int)).toNat = 1 from rfl] at hx292_0)
            (try rw [show 1 * 4 = 4 from rfl] at hx292_0)
            (try rw [show ((1 : Int)).toNat = 1 from rfl] at hx292_1)
            (try rw [show 1 * 4 = 4 from rfl] at hx292_1)
            (try rw [show ((1 : Int)).toNat = 1 from rfl] at hx292_2)
            (try rw [show 1 * 4 = 4 from rfl] at hx292_2)
            (try rw [show ((1 : Int)).toNat = 1 from rfl] at hx292_3)
            (try rw [show 1 * 4 = 4 from rfl] at hx292_3)
            replace p292 := eq_true p292
            replace q292 := eq_true q292
            have p293 : 0 ≤ (0 : Int) := (by omega)
            have q293 : 0 < (y248.length : Int) := of_decide_eq_true (by first | (with_reducible assumption) | assumption)
            obtain ⟨ad293, e293, hx293_0, hx293_1, hx293_2, hx293_3⟩ := at_T35 (rR HO250.out).2.2 0 p293 q293
            obtain rfl : ad292 = ad293 := (by injection e293)
            have qi293 : (0 < y248.length) = True := eq_true (by omega)
            (try rw [show ((0 : Int)).toNat = 0 from rfl] at hx293_0)
            (try rw [show 0 * 4 = 0 from rfl] at hx293_0)
            (try rw [Addr.add_zero'] at hx293_0)
            (try rw [show ((0 : Int)).toNat = 0 from rfl] at hx293_1)
            (try rw [show 0 * 4 = 0 from rfl] at hx293_1)
            (try rw [Addr.add_zero'] at hx293_1)
            (try rw [show ((0 : Int)).toNat = 0 from rfl] at hx293_2)
            (try rw [show 0 * 4 = 0 from rfl] at hx293_2)
            (try rw [Addr.add_zero'] at hx293_2)
            (try rw [show ((0 : Int)).toNat = 0 from rfl] at hx293_3)
            (try rw [show 0 * 4 = 0 from rfl] at hx293_3)
            (try rw [Addr.add_zero'] at hx293_3)
            replace p293 := eq_true p293
            replace q293 := eq_true q293
            have p294 : 0 ≤ (1 : Int) := (by omega)
            have q294 : 1 < (y248.length : Int) := of_decide_eq_true (by first | (with_reducible assumption) | assumption)
            obtain ⟨ad294, e294, hx294_0, hx294_1, hx294_2, hx294_3⟩ := at_T35 (rR HO250.out).2.2 1 p294 q294
            obtain rfl : ad292 = ad294 := (by injection e294)
            (try simp only [show (1 : Int).toNat = 1 from rfl, Nat.reduceMul, Nat.reduceEqDiff, Go.Addr.add, ↓reduceIte] at hx294_0)
            (try simp only [show (1 : Int).toNat = 1 from rfl, Nat.reduceMul, Nat.reduceEqDiff, Go.Addr.add, ↓reduceIte] at hx294_1)
            (try simp only [show (1 : Int).toNat = 1 from rfl, Nat.reduceMul, Nat.reduceEqDiff, Go.Addr.add, ↓reduceIte] at hx294_2)
            (try simp only [show (1 : Int).toNat = 1 from rfl, Nat.reduceMul, Nat.reduceEqDiff, Go.Addr.add, ↓reduceIte] at hx294_3)
            have qi294 : (1 < y248.length) = True := eq_true (by omega)
            (try rw [show ((1 : Int)).toNat = 1 from rfl] at hx294_0)
            (try rw [show 1 * 4 = 4 from rfl] at hx294_0)
            (try rw [show ((1 : Int)).toNat = 1 from rfl] at hx294_1)
            (try rw [show 1 * 4 = 4 from rfl] at hx294_1)
            (try rw [show ((1 : Int)).toNat = 1 from rfl] at hx294_2)
            (try rw [show 1 * 4 = 4 from rfl] at hx294_2)
            (try rw [show ((1 : Int)).toNat = 1 from rfl] at hx294_3)
            (try rw [show 1 * 4 = 4 from rfl] at hx294_3)
            replace p294 := eq_true p294
            replace q294 := eq_true q294
            refine start_ (n := 56) (S := fun w' => w'.cell? ad289 = some (.int .i64 ((rd_T36 t262 0).f0.f0.f0)) ∧ w'.cell? ⟨ad289.block, ad289.off + 1, none⟩ = some (.int .i64 ((rd_T36 t262 0).f0.f0.f1)) ∧ w'.cell? ⟨ad289.block, ad289.off + 2, none⟩ = some (.int .i64 ((rd_T36 t262 0).f0.f1.f0)) ∧ w'.cell? ⟨ad289.block, ad289.off + 3, none⟩ = some (.int .i64 ((rd_T36 t262 0).f0.f1.f1)) ∧ w'.cell? ⟨ad289.block, ad289.off + 4, none⟩ = some (.int .i64 ((rd_T36 t262 0).f1.f0.f0)) ∧ w'.cell? ⟨ad289.block, ad289.off + 5, none⟩ = some (.int .i64 ((rd_T36 t262 0).f1.f0.f1)) ∧ w'.cell? ⟨ad289.block, ad289.off + 6, none⟩ = some (.int .i64 ((rd_T36 t262 0).f1.f1.f0)) ∧ w'.cell? ⟨ad289.block, ad289.off + 7, none⟩ = some (.int .i64 ((rd_T36 t262 0).f1.f1.f1)) ∧ w'.cell? ad290 = some (.int .i64 ((rd_T35 y259 0).f0.f0)) ∧ w'.cell? ⟨ad290.block, ad290.off + 1, none⟩ = some (.int .i64 ((rd_T35 y259 0).f0.f1)) ∧ w'.cell? ⟨ad290.block, ad290.off + 2, none⟩ = some (.int .i64 ((rd_T35 y259 0).f1.f0)) ∧ w'.cell? ⟨ad290.block, ad290.off + 3, none⟩ = some (.int .i64 ((rd_T35 y259 0).f1.f1)) ∧ w'.cell? ⟨ad290.block, ad290.off + 4, none⟩ = some (.int .i64 ((rd_T35 y259 1).f0.f0)) ∧ w'.cell? ⟨ad290.block, ad290.off + 4 + 1, none⟩ = some (.int .i64 ((rd_T35 y259 1).f0.f1)) ∧ w'.cell? ⟨ad290.block, ad290.off + 4 + 2, none⟩ = some (.int .i64 ((rd_T35 y259 1).f1.f0)) ∧ w'.cell? ⟨ad290.block, ad290.off + 4 + 3, none⟩ = some (.int .i64 ((rd_T35 y259 1).f1.f1)) ∧ w'.cell? ⟨ad292.block, ad292.off + 4, none⟩ = some (.int .i64 ((rd_T35 y248 1).f0.f0)) ∧ w'.cell? ⟨ad292.block, ad292.off + 4 + 1, none⟩ = some (.int .i64 ((rd_T35 y248 1).f0.f1)) ∧ w'.cell? ⟨ad292.block, ad292.off + 4 + 2, none⟩ = some (.int .i64 ((rd_T35 y248 1).f1.f0)) ∧ w'.cell? ⟨ad292.block, ad292.off + 4 + 3, none⟩ = some (.int .i64 ((rd_T35 y248 1).f1.f1)) ∧ w'.cell? ad292 = some (.int .i64 ((rd_T35 y248 0).f0.f0)) ∧ w'.cell? ⟨ad292.block, ad292.off + 1, none⟩ = some (.int .i64 ((rd_T35 y248 0).f0.f1)) ∧ w'.cell? ⟨ad292.block, ad292.off + 2, none⟩ = some (.int .i64 ((rd_T35 y248 0).f1.f0)) ∧ w'.cell? ⟨ad292.block, ad292.off + 3, none⟩ = some (.int .i64 ((rd_T35 y248 0).f1.f1)) ∧ w'.cell? ⟨ad292.block, ad292.off + 4, none⟩ = some (.int .i64 ((rd_T35 y248 1).f0.f0)) ∧ w'.cell? ⟨ad292.block, ad292.off + 4 + 1, none⟩ = some (.int .i64 ((rd_T35 y248 1).f0.f1)) ∧ w'.cell? ⟨ad292.block, ad292.off + 4 + 2, none⟩ = some (.int .i64 ((rd_T35 y248 1).f1.f0)) ∧ w'.cell? ⟨ad292.block, ad292.off + 4 + 3, none⟩ = some (.int .i64 ((rd_T35 y248 1).f1.f1))) (ds := []) #[false, false, false, false, false, false, false, false, false, false, false, false, false, false, false, false, false, false, false, false, false, false, false, false, false, false, false, false, false, false, false, false, false, false, false, false, false, false, false, false, false, false, false, false, false, false, false, false, false, false, false, false, false, false, false, false] (by kernel_rfl) rfl rfl ⟨hx289_0, hx289_1, hx289_2, hx289_3, hx289_4, hx289_5, hx289_6, hx289_7, hx290_0, hx290_1, hx290_2, hx290_3, hx291_0, hx291_1, hx291_2, hx291_3, hx292_0, hx292_1, hx292_2, hx292_3, hx293_0, hx293_1, hx293_2, hx293_3, hx294_0, hx294_1, hx294_2, hx294_3⟩ (fun hHeld => ?_); refine with_tabW mapmakerlaw20_livesG.tab6 mapmakerlaw20_livesG.bits6 (fun HT_ HW_ => ?_)
            generalize w60.drew = w62 at HO250 HO261 HO264 HB hx289_0 hx289_1 hx289_2 hx289_3 hx289_4 hx289_5 hx289_6 hx289_7 hx290_0 hx290_1 hx290_2 hx290_3 hx291_0 hx291_1 hx291_2 hx291_3 hx292_0 hx292_1 hx292_2 hx292_3 hx293_0 hx293_1 hx293_2 hx293_3 hx294_0 hx294_1 hx294_2 hx294_3 hHeld ⊢
            refine pure_ (i := 0) (N := some 15) (v := ?_) (a' := ?_) (ba 56 1) rfl rfl (any_of HT_.out (by kernel_rfl)) (fun _ _ _ h => h) (Or.inl ⟨by rfl, ?_⟩) ?_ ?_
            rotate_left
            ·intro w'
             go_simp
             with_reducible rfl
            rotate_left
            ·simp only [Act.put, sA, sB, sC, i64_w, i32_w]
             rfl
            refine one_ (i := 1) (N := some 16) (ba 56 3) rfl rfl (one_of HT_.out (by kernel_rfl)) (by decide) (fun K hK => ?_)
            refine goes_ Try.func19 (by kernel_rfl) rfl #[.slice (some ad292) y248.length co63] (by rfl) rfl rfl (by (try simp only [List.map_toArray, List.map_cons, List.map_nil]); first | done | rfl | (simp only [List.length_drop, List.length_take]; rfl)) ?_
            with_reducible refine (noding_Split.calls k _ _ y248 t265 _ ?side1 ?side2 A7.out).mono ?_
            (case side1 => repeat (first | exact (rR HO250.out).2.2 | (with_reducible refine cA ?_ _) | (with_reducible refine cN ?_ _) | (with_reducible refine cD ?_)))
            (case side2 => exact (rR HO250.out).2.1)
            rintro e w64 ⟨v266, rfl, ho0, hb⟩
            obtain ⟨q0, q1, q2, q3, q4, q5, q6, q7, q8, q9, q10, q11, q12, q13, q14, q15, q16, q17, q18, q19, q20, q21, q22, q23, q24, q25, q26, q27⟩ := hHeld
            have HS_ := And.intro (hs hb q0) <| And.intro (hs hb q1) <| And.intro (hs hb q2) <| And.intro (hs hb q3) <| And.intro (hs hb q4) <| And.intro (hs hb q5) <| And.intro (hs hb q6) <| And.intro (hs hb q7) <| And.intro (hs hb q8) <| And.intro (hs hb q9) <| And.intro (hs hb q10) <| And.intro (hs hb q11) <| And.intro (hs hb q12) <| And.intro (hs hb q13) <| And.intro (hs hb q14) <| And.intro (hs hb q15) <| And.intro (hs hb q16) <| And.intro (hs hb q17) <| And.intro (hs hb q18) <| And.intro (hs hb q19) <| And.intro (hs hb q20) <| And.intro (hs hb q21) <| And.intro (hs hb q22) <| And.intro (hs hb q23) <| And.intro (hs hb q24) <| And.intro (hs hb q25) <| And.intro (hs hb q26) <| hs hb q27
            refine ⟨_, rfl, ?_⟩
            replace HO264 := aM (rB (rl HO264) hb)
            have HO267 := aM (Kd.R_lower (Kd.R_new' (Kd.R_new' ho0 (Kd.R_lt (rl HO250))) (Kd.R_lt (rl HO261))) (below_size (bl)))
            replace HO250 := aM (rE (rl HO250) (Kd.R_base ho0) hb)
            replace HO261 := aM (rE (rl HO261) (Kd.R_base ho0) hb)
            replace HB := aM (bS (bl) hb)
            (try clear hb)
            (try clear hb2)
            (try clear hk)
            (try clear hi)
            (try clear ho0)
            refine hK.out _ _ HS_ (fun hHeld => ?_)
            clear hK K
            refine norm_ (a' := ?_) ?_ ?_
            rotate_left
            ·show Act.put _ (some 16) _ = _
             simp only [Act.put, sA, sB, sC, i64_w, i32_w]
             rfl
            refine one_ (i := 2) (N := some 17) (ba 56 7) rfl rfl (one_of HT_.out (by kernel_rfl)) (by decide) (fun K hK => ?_)
            refine goes_ Try.func28 (by kernel_rfl) rfl #[.int .i64 0, .int .i64 0, .int .i64 2, .int .i64 0] (by rfl) rfl rfl (by (try simp only [List.map_toArray, List.map_cons, List.map_nil]); first | done | rfl | (simp only [List.length_drop, List.length_take]; rfl)) ?_
            with_reducible refine (mapmakerlaw20_seg.calls 0 0 2 0 t268 t269 t270 t271 _ A8.out).mono ?_
            rintro e w65 ⟨rfl, hb⟩
            obtain ⟨q0, q1, q2, q3, q4, q5, q6, q7, q8, q9, q10, q11, q12, q13, q14, q15, q16, q17, q18, q19, q20, q21, q22, q23, q24, q25, q26, q27⟩ := hHeld
            have HS_ := And.intro (hs hb q0) <| And.intro (hs hb q1) <| And.intro (hs hb q2) <| And.intro (hs hb q3) <| And.intro (hs hb q4) <| And.intro (hs hb q5) <| And.intro (hs hb q6) <| And.intro (hs hb q7) <| And.intro (hs hb q8) <| And.intro (hs hb q9) <| And.intro (hs hb q10) <| And.intro (hs hb q11) <| And.intro (hs hb q12) <| And.intro (hs hb q13) <| And.intro (hs hb q14) <| And.intro (hs hb q15) <| And.intro (hs hb q16) <| And.intro (hs hb q17) <| And.intro (hs hb q18) <| And.intro (hs hb q19) <| And.intro (hs hb q20) <| And.intro (hs hb q21) <| And.intro (hs hb q22) <| And.intro (hs hb q23) <| And.intro (hs hb q24) <| And.intro (hs hb q25) <| And.intro (hs hb q26) <| hs hb q27
            refine ⟨_, rfl, ?_⟩
            replace HO250 := aM (rB (rl HO250) hb)
            replace HO261 := aM (rB (rl HO261) hb)
            replace HO264 := aM (rB (rl HO264) hb)
            replace HO267 := aM (rB (rl HO267) hb)
            replace HB := aM (bS (bl) hb)
            (try clear hb)
            (try clear hb2)
            (try clear hk)
            (try clear hi)
            refine hK.out _ _ HS_ (fun hHeld => ?_)
            clear hK K
            refine norm_ (a' := ?_) ?_ ?_
            rotate_left
            ·show Act.put _ (some 17) _ = _
             simp only [Act.put, sA, sB, sC, i64_w, i32_w]
             rfl
            refine one_ (i := 3) (N := some 18) (ba 56 15) rfl rfl (one_of HT_.out (by kernel_rfl)) (by decide) (fun K hK => ?_)
            refine goes_ Try.func28 (by kernel_rfl) rfl #[.int .i64 2, .int .i64 0, .int .i64 2, .int .i64 3] (by rfl) rfl rfl (by (try simp only [List.map_toArray, List.map_cons, List.map_nil]); first | done | rfl | (simp only [List.length_drop, List.length_take]; rfl)) ?_
            with_reducible refine (mapmakerlaw20_seg.calls 2 0 2 3 t272 t273 t274 t275 _ A9.out).mono ?_
            rintro e w66 ⟨rfl, hb⟩
            obtain ⟨q0, q1, q2, q3, q4, q5, q6, q7, q8, q9, q10, q11, q12, q13, q14, q15, q16, q17, q18, q19, q20, q21, q22, q23, q24, q25, q26, q27⟩ := hHeld
            have HS_ := And.intro (hs hb q0) <| And.intro (hs hb q1) <| And.intro (hs hb q2) <| And.intro (hs hb q3) <| And.intro (hs hb q4) <| And.intro (hs hb q5) <| And.intro (hs hb q6) <| And.intro (hs hb q7) <| And.intro (hs hb q8) <| And.intro (hs hb q9) <| And.intro (hs hb q10) <| And.intro (hs hb q11) <| And.intro (hs hb q12) <| And.intro (hs hb q13) <| And.intro (hs hb q14) <| And.intro (hs hb q15) <| And.intro (hs hb q16) <| And.intro (hs hb q17) <| And.intro (hs hb q18) <| And.intro (hs hb q19) <| And.intro (hs hb q20) <| And.intro (hs hb q21) <| And.intro (hs hb q22) <| And.intro (hs hb q23) <| And.intro (hs hb q24) <| And.intro (hs hb q25) <| And.intro (hs hb q26) <| hs hb q27
            refine ⟨_, rfl, ?_⟩
            replace HO250 := aM (rB (rl HO250) hb)
            replace HO261 := aM (rB (rl HO261) hb)
            replace HO264 := aM (rB (rl HO264) hb)
            replace HO267 := aM (rB (rl HO267) hb)
            replace HB := aM (bS (bl) hb)
            (try clear hb)
            (try clear hb2)
            (try clear hk)
            (try clear hi)
            refine hK.out _ _ HS_ (fun hHeld => ?_)
            clear hK K
            refine norm_ (a' := ?_) ?_ ?_
            rotate_left
            ·show Act.put _ (some 18) _ = _
             simp only [Act.put, sA, sB, sC, i64_w, i32_w]
             rfl
            refine one_ (i := 4) (N := some 19) (ba 56 31) rfl rfl (one_of HT_.out (by kernel_rfl)) (by decide) (fun K hK => ?_)
            refine goes_ Try.func28 (by kernel_rfl) rfl #[.int .i64 2, .int .i64 0, .int .i64 4, .int .i64 0] (by rfl) rfl rfl (by (try simp only [List.map_toArray, List.map_cons, List.map_nil]); first | done | rfl | (simp only [List.length_drop, List.length_take]; rfl)) ?_
            with_reducible refine (mapmakerlaw20_seg.calls 2 0 4 0 t276 t277 t278 t279 _ A10.out).mono ?_
            rintro e w67 ⟨rfl, hb⟩
            obtain ⟨q0, q1, q2, q3, q4, q5, q6, q7, q8, q9, q10, q11, q12, q13, q14, q15, q16, q17, q18, q19, q20, q21, q22, q23, q24, q25, q26, q27⟩ := hHeld
            have HS_ := And.intro (hs hb q0) <| And.intro (hs hb q1) <| And.intro (hs hb q2) <| And.intro (hs hb q3) <| And.intro (hs hb q4) <| And.intro (hs hb q5) <| And.intro (hs hb q6) <| And.intro (hs hb q7) <| And.intro (hs hb q8) <| And.intro (hs hb q9) <| And.intro (hs hb q10) <| And.intro (hs hb q11) <| And.intro (hs hb q12) <| And.intro (hs hb q13) <| And.intro (hs hb q14) <| And.intro (hs hb q15) <| And.intro (hs hb q16) <| And.intro (hs hb q17) <| And.intro (hs hb q18) <| And.intro (hs hb q19) <| And.intro (hs hb q20) <| And.intro (hs hb q21) <| And.intro (hs hb q22) <| And.intro (hs hb q23) <| And.intro (hs hb q24) <| And.intro (hs hb q25) <| And.intro (hs hb q26) <| hs hb q27
            refine ⟨_, rfl, ?_⟩
            replace HO250 := aM (rB (rl HO250) hb)
            replace HO261 := aM (rB (rl HO261) hb)
            replace HO264 := aM (rB (rl HO264) hb)
            replace HO267 := aM (rB (rl HO267) hb)
            replace HB := aM (bS (bl) hb)
            (try clear hb)
            (try clear hb2)
            (try clear hk)
            (try clear hi)
            refine hK.out _ _ HS_ (fun hHeld => ?_)
            clear hK K
            refine norm_ (a' := ?_) ?_ ?_
            rotate_left
            ·show Act.put _ (some 19) _ = _
             simp only [Act.put, sA, sB, sC, i64_w, i32_w]
             rfl
            refine one_ (i := 5) (N := some 20) (ba 56 63) rfl rfl (one_of HT_.out (by kernel_rfl)) (by decide) (fun K hK => ?_)
            refine Kd.R_lit_step k35 _ 35 ?hg (N := 20) ?hd (xs := ([(⟨(⟨t268, t269⟩ : S33), (⟨t270, t271⟩ : S33)⟩ : S35), (⟨(⟨t272, t273⟩ : S33), (⟨t274, t275⟩ : S33)⟩ : S35), (⟨(⟨t276, t277⟩ : S33), (⟨t278, t279⟩ : S33)⟩ : S35)] : List (S35))) (inner := [.int .i64 t268, .int .i64 t269, .int .i64 t270, .int .i64 t271, .int .i64 t272, .int .i64 t273, .int .i64 t274, .int .i64 t275, .int .i64 t276, .int .i64 t277, .int .i64 t278, .int .i64 t279]) (ok := fun _ => True) (okp := fun _ => True) ?hr ?hp (fun _ hk => hk) trivial (Below.refl _ _) (Nat.le_refl _) (by simp) ?_; (case hd => rfl); (case hg => rfl); (case hr => first | (go_simp; done) | (go_simp; rfl)); (case hp => exact (Reps.c4 (show Kd.M k35 _ _ _ (⟨(⟨t268, t269⟩ : S33), (⟨t270, t271⟩ : S33)⟩ : S35) [.int .i64 t268, .int .i64 t269, .int .i64 t270, .int .i64 t271] from (k35_mkM _ _ _ (⟨(⟨t268, t269⟩ : S33), (⟨t270, t271⟩ : S33)⟩ : S35) )) (Reps.c4 (show Kd.M k35 _ _ _ (⟨(⟨t272, t273⟩ : S33), (⟨t274, t275⟩ : S33)⟩ : S35) [.int .i64 t272, .int .i64 t273, .int .i64 t274, .int .i64 t275] from (k35_mkM _ _ _ (⟨(⟨t272, t273⟩ : S33), (⟨t274, t275⟩ : S33)⟩ : S35) )) (Reps.c4 (show Kd.M k35 _ _ _ (⟨(⟨t276, t277⟩ : S33), (⟨t278, t279⟩ : S33)⟩ : S35) [.int .i64 t276, .int .i64 t277, .int .i64 t278, .int .i64 t279] from (k35_mkM _ _ _ (⟨(⟨t276, t277⟩ : S33), (⟨t278, t279⟩ : S33)⟩ : S35) )) (Reps.none _ _)))))
            intro v281 w68 ho69 hb hg_ hnew_
            obtain ⟨q0, q1, q2, q3, q4, q5, q6, q7, q8, q9, q10, q11, q12, q13, q14, q15, q16, q17, q18, q19, q20, q21, q22, q23, q24, q25, q26, q27⟩ := hHeld
            have HS_ := And.intro (hs hb q0) <| And.intro (hs hb q1) <| And.intro (hs hb q2) <| And.intro (hs hb q3) <| And.intro (hs hb q4) <| And.intro (hs hb q5) <| And.intro (hs hb q6) <| And.intro (hs hb q7) <| And.intro (hs hb q8) <| And.intro (hs hb q9) <| And.intro (hs hb q10) <| And.intro (hs hb q11) <| And.intro (hs hb q12) <| And.intro (hs hb q13) <| And.intro (hs hb q14) <| And.intro (hs hb q15) <| And.intro (hs hb q16) <| And.intro (hs hb q17) <| And.intro (hs hb q18) <| And.intro (hs hb q19) <| And.intro (hs hb q20) <| And.intro (hs hb q21) <| And.intro (hs hb q22) <| And.intro (hs hb q23) <| And.intro (hs hb q24) <| And.intro (hs hb q25) <| And.intro (hs hb q26) <| hs hb q27
            clear hg_ hnew_
            (first | rw [← Ny280.out] at ho69 | (simp only [Int.reduceToNat] at ho69; rw [← Ny280.out] at ho69))
            have n0_ := aM (rE (rl HO250) (Kd.R_base ho69) hb)
            have n1_ := aM (rE (rl HO261) (Kd.R_base ho69) hb)
            have n2_ := aM (rB (rl HO264) hb)
            have n3_ := aM (rE (rl HO267) (Kd.R_base ho69) hb)
            have n4_ := aM (Kd.R_lower (Kd.R_new' (Kd.R_new' (Kd.R_new' ho69 (Kd.R_lt (rl HO250))) (Kd.R_lt (rl HO261))) (Kd.R_lt (rl HO267))) (below_size (bl)))
            have n5_ := aM (bS (bl) hb)
            clear HO250 HO261 HO264 HO267 HB
            have HO250 := n0_
            have HO261 := n1_
            have HO264 := n2_
            have HO267 := n3_
            have HO282 := n4_
            have HB := n5_
            clear n0_ n1_ n2_ n3_ n4_ n5_ hb ho69
            obtain ⟨Ao70, co70, eo70⟩ := Kd.R_slice HO267.out
            (first | subst eo70 | (injection eo70 with f1_ f2_ f3_; have f4_ := f1_.symm; have f5_ := f3_.symm; clear f1_ f2_ f3_; subst f4_; subst f5_))
            obtain ⟨Ao71, co71, eo71⟩ := Kd.R_slice HO282.out
            (first | subst eo71 | (injection eo71 with f1_ f2_ f3_; have f4_ := f1_.symm; have f5_ := f3_.symm; clear f1_ f2_ f3_; subst f4_; subst f5_))
            refine hK.out _ _ HS_ (fun hHeld => ?_)
            clear hK K
            refine norm_ (a' := ?_) ?_ ?_
            rotate_left
            ·show Act.put _ (some 20) _ = _
             simp only [Act.put, sA, sB, sC, i64_w, i32_w]
             rfl
            refine one_ (i := 6) (N := some 21) (ba 56 127) rfl rfl (one_of HT_.out (by kernel_rfl)) (by decide) (fun K hK => ?_)
            refine goes_ Try.func10 (by kernel_rfl) rfl #[.slice Ao70 t265.length co70, .slice Ao71 y280.length co71] (by rfl) rfl rfl (by (try simp only [List.map_toArray, List.map_cons, List.map_nil]); first | done | rfl | (simp only [List.length_drop, List.length_take]; rfl)) ?_
            with_reducible refine (mapmakerref20_Same.calls k _ _ t265 _ _ y280 true _ ?side1 ?side2 ?side3 ?side4 A11.out).mono ?_
            (case side1 => repeat (first | exact (rR HO267.out).2.2 | (with_reducible refine cA ?_ _) | (with_reducible refine cN ?_ _) | (with_reducible refine cD ?_)))
            (case side2 => exact (rR HO267.out).2.1)
            (case side3 => repeat (first | exact (rR HO282.out).2.2 | (with_reducible refine cA ?_ _) | (with_reducible refine cN ?_ _) | (with_reducible refine cD ?_)))
            (case side4 => exact (rR HO282.out).2.1)
            rintro e w' ⟨rfl, ⟨nd, rfl⟩⟩
            refine ⟨_, rfl, ?_⟩
            refine hK.out _ _ ⟨hHeld.1, hHeld.2.1, hHeld.2.2.1, hHeld.2.2.2.1, hHeld.2.2.2.2.1, hHeld.2.2.2.2.2.1, hHeld.2.2.2.2.2.2.1, hHeld.2.2.2.2.2.2.2.1, hHeld.2.2.2.2.2.2.2.2.1, hHeld.2.2.2.2.2.2.2.2.2.1, hHeld.2.2.2.2.2.2.2.2.2.2.1, hHeld.2.2.2.2.2.2.2.2.2.2.2.1, hHeld.2.2.2.2.2.2.2.2.2.2.2.2.1, hHeld.2.2.2.2.2.2.2.2.2.2.2.2.2.1, hHeld.2.2.2.2.2.2.2.2.2.2.2.2.2.2.1, hHeld.2.2.2.2.2.2.2.2.2.2.2.2.2.2.2.1, hHeld.2.2.2.2.2.2.2.2.2.2.2.2.2.2.2.2.1, hHeld.2.2.2.2.2.2.2.2.2.2.2.2.2.2.2.2.2.1, hHeld.2.2.2.2.2.2.2.2.2.2.2.2.2.2.2.2.2.2.1, hHeld.2.2.2.2.2.2.2.2.2.2.2.2.2.2.2.2.2.2.2.1, hHeld.2.2.2.2.2.2.2.2.2.2.2.2.2.2.2.2.2.2.2.2.1, hHeld.2.2.2.2.2.2.2.2.2.2.2.2.2.2.2.2.2.2.2.2.2.1, hHeld.2.2.2.2.2.2.2.2.2.2.2.2.2.2.2.2.2.2.2.2.2.2.1, hHeld.2.2.2.2.2.2.2.2.2.2.2.2.2.2.2.2.2.2.2.2.2.2.2.1, hHeld.2.2.2.2.2.2.2.2.2.2.2.2.2.2.2.2.2.2.2.2.2.2.2.2.1, hHeld.2.2.2.2.2.2.2.2.2.2.2.2.2.2.2.2.2.2.2.2.2.2.2.2.2.1, hHeld.2.2.2.2.2.2.2.2.2.2.2.2.2.2.2.2.2.2.2.2.2.2.2.2.2.2.1, hHeld.2.2.2.2.2.2.2.2.2.2.2.2.2.2.2.2.2.2.2.2.2.2.2.2.2.2.2⟩ (fun hHeld => ?_)
            clear hK K
            refine norm_ (a' := ?_) ?_ ?_
            rotate_left
            ·show Act.put _ (some 21) _ = _
             simp only [Act.put, sA, sB, sC, i64_w, i32_w]
             rfl
            refine pure_ (i := 7) (N := some 22) (v := ?_) (a' := ?_) (ba 56 255) rfl rfl (any_of HT_.out (by kernel_rfl)) (fun _ _ _ h => h) (Or.inl ⟨by rfl, ?_⟩) ?_ ?_
            rotate_left
            ·intro w'
             go_simp
             with_reducible rfl
            rotate_left
            ·simp only [Act.put, sA, sB, sC, i64_w, i32_w]
             rfl
            refine pure_ (i := 8) (N := some 23) (v := ?_) (a' := ?_) (ba 56 511) rfl rfl (any_of HT_.out (by kernel_rfl)) (fun _ _ _ h => h) (Or.inl ⟨by rfl, ?_⟩) ?_ ?_
            rotate_left
            ·intro w'
             go_simp
             with_reducible rfl
            rotate_left
            ·simp only [Act.put, sA, sB, sC, i64_w, i32_w]
             rfl
            refine one_ (i := 9) (N := some 24) (ba 56 1023) rfl rfl (one_of HT_.out (by kernel_rfl)) (by decide) (fun K hK => ?_)
            refine goes_ Try.func21 (by kernel_rfl) rfl #[.slice (some ad292) y248.length co63] (by rfl) rfl rfl (by (try simp only [List.map_toArray, List.map_cons, List.map_nil]); first | done | rfl | (simp only [List.length_drop, List.length_take]; rfl)) ?_
            with_reducible refine (noding_Clean.calls k _ _ y248 false _ ?side1 ?side2 A13.out).mono ?_
            (case side1 => repeat (first | exact (rR HO250.out).2.2 | (with_reducible refine cA ?_ _) | (with_reducible refine cN ?_ _) | (with_reducible refine cD ?_)))
            (case side2 => exact (rR HO250.out).2.1)
            rintro e w72 ⟨rfl, hb⟩
            obtain ⟨q0, q1, q2, q3, q4, q5, q6, q7, q8, q9, q10, q11, q12, q13, q14, q15, q16, q17, q18, q19, q20, q21, q22, q23, q24, q25, q26, q27⟩ := hHeld
            have HS_ := And.intro (hs hb q0) <| And.intro (hs hb q1) <| And.intro (hs hb q2) <| And.intro (hs hb q3) <| And.intro (hs hb q4) <| And.intro (hs hb q5) <| And.intro (hs hb q6) <| And.intro (hs hb q7) <| And.intro (hs hb q8) <| And.intro (hs hb q9) <| And.intro (hs hb q10) <| And.intro (hs hb q11) <| And.intro (hs hb q12) <| And.intro (hs hb q13) <| And.intro (hs hb q14) <| And.intro (hs hb q15) <| And.intro (hs hb q16) <| And.intro (hs hb q17) <| And.intro (hs hb q18) <| And.intro (hs hb q19) <| And.intro (hs hb q20) <| And.intro (hs hb q21) <| And.intro (hs hb q22) <| And.intro (hs hb q23) <| And.intro (hs hb q24) <| And.intro (hs hb q25) <| And.intro (hs hb q26) <| hs hb q27
            refine ⟨_, rfl, ?_⟩
            replace HO250 := aM (rB (rl HO250) hb)
            replace HO261 := aM (rB (rl HO261) hb)
            replace HO264 := aM (rB (rl HO264) hb)
            replace HO267 := aM (rB (rl HO267) hb)
            replace HO282 := aM (rB (rl HO282) hb)
            replace HB := aM (bS (bl) hb)
            (try clear hb)
            (try clear hb2)
            (try clear hk)
            (try clear hi)
            refine hK.out _ _ HS_ (fun hHeld => ?_)
            clear hK K
            refine norm_ (a' := ?_) ?_ ?_
            rotate_left
            ·show Act.put _ (some 24) _ = _
             simp only [Act.put, sA, sB, sC, i64_w, i32_w]
             rfl
            refine pure_ (i := 10) (N := some 25) (v := ?_) (a' := ?_) (ba 56 2047) rfl rfl (any_of HT_.out (by kernel_rfl)) (fun _ _ _ h => h) (Or.inl ⟨by rfl, ?_⟩) ?_ ?_
            rotate_left
            ·intro w'
             go_simp
             with_reducible rfl
            rotate_left
            ·simp only [Act.put, sA, sB, sC, i64_w, i32_w]
             rfl
            refine pure_ (i := 11) (N := some 26) (v := ?_) (a' := ?_) (ba 56 4095) rfl rfl (any_of HT_.out (by kernel_rfl)) (fun _ _ _ h => h) (Or.inl ⟨by rfl, ?_⟩) ?_ ?_
            rotate_left
            ·intro w'
             go_simp
             with_reducible rfl
            rotate_left
            ·simp only [Act.put, sA, sB, sC, i64_w, i32_w]
             rfl
            refine pure_ (i := 12) (N := some 27) (v := ?_) (a' := ?_) (ba 56 8191) rfl rfl (any_of HT_.out (by kernel_rfl)) (fun _ _ _ h => h) (Or.inl ⟨by rfl, ?_⟩) ?_ ?_
            rotate_left
            ·intro w'
             go_simp
             with_reducible rfl
            rotate_left
            ·simp only [Act.put, sA, sB, sC, i64_w, i32_w]
             rfl
            refine pure_ (i := 13) (N := some 28) (v := ?_) (a' := ?_) (ba 56 16383) rfl rfl (any_of HT_.out (by kernel_rfl)) (fun _ _ _ h => h) (Or.inl ⟨by rfl, ?_⟩) ?_ ?_
            rotate_left
            ·intro w'
             go_simp
             with_reducible rfl
            rotate_left
            ·simp only [Act.put, sA, sB, sC, i64_w, i32_w]
             rfl
            refine one_ (i := 14) (N := some 29) (ba 56 32767) rfl rfl (one_of HT_.out (by kernel_rfl)) (by decide) (fun K hK => ?_)
            refine goes_ Try.func19 (by kernel_rfl) rfl #[.slice (some ad292) y248.length co63] (by rfl) rfl rfl (by (try simp only [List.map_toArray, List.map_cons, List.map_nil]); first | done | rfl | (simp only [List.length_drop, List.length_take]; rfl)) ?_
            with_reducible refine (noding_Split.calls k _ _ y248 t285 _ ?side1 ?side2 A37.out).mono ?_
            (case side1 => repeat (first | exact (rR HO250.out).2.2 | (with_reducible refine cA ?_ _) | (with_reducible refine cN ?_ _) | (with_reducible refine cD ?_)))
            (case side2 => exact (rR HO250.out).2.1)
            rintro e w73 ⟨v286, rfl, ho0, hb⟩
            obtain ⟨q0, q1, q2, q3, q4, q5, q6, q7, q8, q9, q10, q11, q12, q13, q14, q15, q16, q17, q18, q19, q20, q21, q22, q23, q24, q25, q26, q27⟩ := hHeld
            have HS_ := And.intro (hs hb q0) <| And.intro (hs hb q1) <| And.intro (hs hb q2) <| And.intro (hs hb q3) <| And.intro (hs hb q4) <| And.intro (hs hb q5) <| And.intro (hs hb q6) <| And.intro (hs hb q7) <| And.intro (hs hb q8) <| And.intro (hs hb q9) <| And.intro (hs hb q10) <| And.intro (hs hb q11) <| And.intro (hs hb q12) <| And.intro (hs hb q13) <| And.intro (hs hb q14) <| And.intro (hs hb q15) <| And.intro (hs hb q16) <| And.intro (hs hb q17) <| And.intro (hs hb q18) <| And.intro (hs hb q19) <| And.intro (hs hb q20) <| And.intro (hs hb q21) <| And.intro (hs hb q22) <| And.intro (hs hb q23) <| And.intro (hs hb q24) <| And.intro (hs hb q25) <| And.intro (hs hb q26) <| hs hb q27
            refine ⟨_, rfl, ?_⟩
            replace HO264 := aM (rB (rl HO264) hb)
            have HO287 := aM (Kd.R_lower (Kd.R_new' (Kd.R_new' (Kd.R_new' (Kd.R_new' ho0 (Kd.R_lt (rl HO250))) (Kd.R_lt (rl HO261))) (Kd.R_lt (rl HO267))) (Kd.R_lt (rl HO282))) (below_size (bl)))
            replace HO250 := aM (rE (rl HO250) (Kd.R_base ho0) hb)
            replace HO261 := aM (rE (rl HO261) (Kd.R_base ho0) hb)
            replace HO267 := aM (rE (rl HO267) (Kd.R_base ho0) hb)
            replace HO282 := aM (rE (rl HO282) (Kd.R_base ho0) hb)
            replace HB := aM (bS (bl) hb)
            (try clear hb)
            (try clear hb2)
            (try clear hk)
            (try clear hi)
            (try clear ho0)
            obtain ⟨Ao74, co74, eo74⟩ := Kd.R_slice HO287.out
            (first | subst eo74 | (injection eo74 with f1_ f2_ f3_; have f4_ := f1_.symm; have f5_ := f3_.symm; clear f1_ f2_ f3_; subst f4_; subst f5_))
            refine hK.out _ _ HS_ (fun hHeld => ?_)
            clear hK K
            refine norm_ (a' := ?_) ?_ ?_
            rotate_left
            ·show Act.put _ (some 29) _ = _
             simp only [Act.put, sA, sB, sC, i64_w, i32_w]
             rfl
            refine one_ (i := 15) (N := some 30) (ba 56 65535) rfl rfl (one_of HT_.out (by kernel_rfl)) (by decide) (fun K hK => ?_)
            refine goes_ Try.func21 (by kernel_rfl) rfl #[.slice Ao74 t285.length co74] (by rfl) rfl rfl (by (try simp only [List.map_toArray, List.map_cons, List.map_nil]); first | done | rfl | (simp only [List.length_drop, List.length_take]; rfl)) ?_
            with_reducible refine (noding_Clean.calls k _ _ t285 true _ ?side1 ?side2 A38.out).mono ?_
            (case side1 => repeat (first | exact (rR HO287.out).2.2 | (with_reducible refine cA ?_ _) | (with_reducible refine cN ?_ _) | (with_reducible refine cD ?_)))
            (case side2 => exact (rR HO287.out).2.1)
            rintro e w75 ⟨rfl, hb⟩
            obtain ⟨q0, q1, q2, q3, q4, q5, q6, q7, q8, q9, q10, q11, q12, q13, q14, q15, q16, q17, q18, q19, q20, q21, q22, q23, q24, q25, q26, q27⟩ := hHeld
            have HS_ := And.intro (hs hb q0) <| And.intro (hs hb q1) <| And.intro (hs hb q2) <| And.intro (hs hb q3) <| And.intro (hs hb q4) <| And.intro (hs hb q5) <| And.intro (hs hb q6) <| And.intro (hs hb q7) <| And.intro (hs hb q8) <| And.intro (hs hb q9) <| And.intro (hs hb q10) <| And.intro (hs hb q11) <| And.intro (hs hb q12) <| And.intro (hs hb q13) <| And.intro (hs hb q14) <| And.intro (hs hb q15) <| And.intro (hs hb q16) <| And.intro (hs hb q17) <| And.intro (hs hb q18) <| And.intro (hs hb q19) <| And.intro (hs hb q20) <| And.intro (hs hb q21) <| And.intro (hs hb q22) <| And.intro (hs hb q23) <| And.intro (hs hb q24) <| And.intro (hs hb q25) <| And.intro (hs hb q26) <| hs hb q27
            refine ⟨_, rfl, ?_⟩
            replace HO250 := aM (rB (rl HO250) hb)
            replace HO261 := aM (rB (rl HO261) hb)
            replace HO264 := aM (rB (rl HO264) hb)
            replace HO267 := aM (rB (rl HO267) hb)
            replace HO282 := aM (rB (rl HO282) hb)
            replace HO287 := aM (rB (rl HO287) hb)
            replace HB := aM (bS (bl) hb)
            (try clear hb)
            (try clear hb2)
            (try clear hk)
            (try clear hi)
            refine hK.out _ _ HS_ (fun hHeld => ?_)
            clear hK K
            refine norm_ (a' := ?_) ?_ ?_
            rotate_left
            ·show Act.put _ (some 30) _ = _
             simp only [Act.put, sA, sB, sC, i64_w, i32_w]
             rfl
            refine pure_ (i := 16) (N := some 31) (v := ?_) (a' := ?_) (ba 56 131071) rfl rfl (any_of HT_.out (by kernel_rfl)) (fun _ _ _ h => h) (Or.inl ⟨by rfl, ?_⟩) ?_ ?_
            rotate_left
            ·intro w'
             go_simp
             with_reducible rfl
            rotate_left
            ·simp only [Act.put, sA, sB, sC, i64_w, i32_w]
             rfl
            refine pure_ (i := 17) (N := some 32) (v := ?_) (a' := ?_) (ba 56 262143) rfl rfl (any_of HT_.out (by kernel_rfl)) (fun _ _ _ h => h) (Or.inl ⟨by rfl, ?_⟩) ?_ ?_
            rotate_left
            ·intro w'
             go_simp
             with_reducible rfl
            rotate_left
            ·simp only [Act.put, sA, sB, sC, i64_w, i32_w]
             rfl
            refine pure_ (i := 18) (N := some 33) (v := ?_) (a' := ?_) (ba 56 524287) rfl rfl (any_of HT_.out (by kernel_rfl)) (fun _ _ _ h => h) (Or.inl ⟨by rfl, ?_⟩) ?_ ?_
            rotate_left
            ·intro w'
             go_simp
             with_reducible rfl
            rotate_left
            ·simp only [Act.put, sA, sB, sC, i64_w, i32_w]
             rfl
            refine pure_ (i := 19) (N := some 34) (v := ?_) (a' := ?_) (ba 56 1048575) rfl rfl (any_of HT_.out (by kernel_rfl)) (fun _ _ _ h => h) (Or.inl ⟨by rfl, ?_⟩) ?_ ?_
            rotate_left
            ·intro w'
             go_simp
             with_reducible rfl
            rotate_left
            ·simp only [Act.put, sA, sB, sC, i64_w, i32_w]
             rfl
            refine pure_ (i := 21) (N := some 36) (v := ?_) (a' := ?_) (ba 56 3145727) rfl rfl (any_of HT_.out (by kernel_rfl)) (fun _ _ _ h => h) (Or.inl ⟨by rfl, ?_⟩) ?_ ?_
            rotate_left
            ·intro w'
             go_simp
             with_reducible rfl
            rotate_left
            ·simp only [Act.put, sA, sB, sC, i64_w, i32_w]
             rfl
            refine pure_ (i := 22) (N := some 37) (v := ?_) (a' := ?_) (ba 56 7340031) rfl rfl (any_of HT_.out (by kernel_rfl)) (fun _ _ _ h => h) (Or.inl ⟨by rfl, ?_⟩) ?_ ?_
            rotate_left
            ·intro w'
             go_simp
             with_reducible rfl
            rotate_left
            ·simp only [Act.put, sA, sB, sC, i64_w, i32_w]
             rfl
            refine pure_ (i := 24) (N := some 39) (v := ?_) (a' := ?_) (ba 56 24117247) rfl rfl (any_of HT_.out (by kernel_rfl)) (fun _ _ _ h => h) (Or.inl ⟨by rfl, ?_⟩) ?_ ?_
            rotate_left
            ·intro w'
             go_simp
             with_reducible rfl
            rotate_left
            ·simp only [Act.put, sA, sB, sC, i64_w, i32_w]
             rfl
            refine pure_ (i := 25) (N := some 40) (v := ?_) (a' := ?_) (ba 56 57671679) rfl rfl (any_of HT_.out (by kernel_rfl)) (fun _ _ _ h => h) (Or.inl ⟨by rfl, ?_⟩) ?_ ?_
            rotate_left
            ·intro w'
             go_simp
             with_reducible rfl
            rotate_left
            ·simp only [Act.put, sA, sB, sC, i64_w, i32_w]
             rfl
            refine take_ (i := 20) (N := some 35) (v := ?_) (a' := ?_) (ba 56 58720255) rfl rfl (take_ofW HT_.out HW_.out (by kernel_rfl)) (fun _ _ _ h => h) (Or.inl ⟨by rfl, ?_⟩) hHeld ?_ ?_
            rotate_left
            ·rintro w' ⟨s0, s1, s2, s3, s4, s5, s6, s7, s8, s9, s10, s11, s12, s13, s14, s15, s16, s17, s18, s19, s20, s21, s22, s23, s24, s25, s26, s27⟩
             go_simp
             with_reducible rfl
            rotate_left
            ·simp only [Act.put, sA, sB, sC, i64_w, i32_w]
             rfl
            refine take_ (i := 23) (N := some 38) (v := ?_) (a' := ?_) (ba 56 67108863) rfl rfl (take_ofW HT_.out HW_.out (by kernel_rfl)) (fun _ _ _ h => h) (Or.inl ⟨by rfl, ?_⟩) hHeld ?_ ?_
            rotate_left
            ·rintro w' ⟨s0, s1, s2, s3, s4, s5, s6, s7, s8, s9, s10, s11, s12, s13, s14, s15, s16, s17, s18, s19, s20, s21, s22, s23, s24, s25, s26, s27⟩
             go_simp
             with_reducible rfl
            rotate_left
            ·simp only [Act.put, sA, sB, sC, i64_w, i32_w]
             rfl
            refine take_ (i := 26) (N := some 41) (v := ?_) (a' := ?_) (ba 56 134217727) rfl rfl (take_ofW HT_.out HW_.out (by kernel_rfl)) (fun _ _ _ h => h) (Or.inl ⟨by rfl, ?_⟩) hHeld ?_ ?_
            rotate_left
            ·rintro w' ⟨s0, s1, s2, s3, s4, s5, s6, s7, s8, s9, s10, s11, s12, s13, s14, s15, s16, s17, s18, s19, s20, s21, s22, s23, s24, s25, s26, s27⟩
             go_simp
             with_reducible rfl
            rotate_left
            ·simp only [Act.put, sA, sB, sC, i64_w, i32_w]
             rfl
            refine pure_ (i := 27) (N := some 42) (v := ?_) (a' := ?_) (ba 56 268435455) rfl rfl (any_of HT_.out (by kernel_rfl)) (fun _ _ _ h => h) (Or.inl ⟨by rfl, ?_⟩) ?_ ?_
            rotate_left
            ·intro w'
             go_simp
             with_reducible rfl
            rotate_left
            ·simp only [Act.put, sA, sB, sC, i64_w, i32_w]
             rfl
            refine pure_ (i := 28) (N := some 43) (v := ?_) (a' := ?_) (ba 56 536870911) rfl rfl (any_of HT_.out (by kernel_rfl)) (fun _ _ _ h => h) (Or.inl ⟨by rfl, ?_⟩) ?_ ?_
            rotate_left
            ·intro w'
             go_simp
             with_reducible rfl
            rotate_left
            ·simp only [Act.put, sA, sB, sC, i64_w, i32_w]
             rfl
            refine pure_ (i := 29) (N := some 44) (v := ?_) (a' := ?_) (ba 56 1073741823) rfl rfl (any_of HT_.out (by kernel_rfl)) (fun _ _ _ h => h) (Or.inl ⟨by rfl, ?_⟩) ?_ ?_
            rotate_left
            ·intro w'
             go_simp
             with_reducible rfl
            rotate_left
            ·simp only [Act.put, sA, sB, sC, i64_w, i32_w]
             rfl
            refine pure_ (i := 30) (N := some 45) (v := ?_) (a' := ?_) (ba 56 2147483647) rfl rfl (any_of HT_.out (by kernel_rfl)) (fun _ _ _ h => h) (Or.inl ⟨by rfl, ?_⟩) ?_ ?_
            rotate_left
            ·intro w'
             go_simp
             with_reducible rfl
            rotate_left
            ·simp only [Act.put, sA, sB, sC, i64_w, i32_w]
             rfl
            refine pure_ (i := 31) (N := some 46) (v := ?_) (a' := ?_) (ba 56 4294967295) rfl rfl (any_of HT_.out (by kernel_rfl)) (fun _ _ _ h => h) (Or.inl ⟨by rfl, ?_⟩) ?_ ?_
            rotate_left
            ·intro w'
             go_simp
             with_reducible rfl
            rotate_left
            ·simp only [Act.put, sA, sB, sC, i64_w, i32_w]
             rfl
            refine pure_ (i := 32) (N := some 47) (v := ?_) (a' := ?_) (ba 56 8589934591) rfl rfl (any_of HT_.out (by kernel_rfl)) (fun _ _ _ h => h) (Or.inl ⟨by rfl, ?_⟩) ?_ ?_
            rotate_left
            ·intro w'
             go_simp
             with_reducible rfl
            rotate_left
            ·simp only [Act.put, sA, sB, sC, i64_w, i32_w]
             rfl
            refine pure_ (i := 34) (N := some 49) (v := ?_) (a' := ?_) (ba 56 25769803775) rfl rfl (any_of HT_.out (by kernel_rfl)) (fun _ _ _ h => h) (Or.inl ⟨by rfl, ?_⟩) ?_ ?_
            rotate_left
            ·intro w'
             go_simp
             with_reducible rfl
            rotate_left
            ·simp only [Act.put, sA, sB, sC, i64_w, i32_w]
             rfl
            refine pure_ (i := 35) (N := some 50) (v := ?_) (a' := ?_) (ba 56 60129542143) rfl rfl (any_of HT_.out (by kernel_rfl)) (fun _ _ _ h => h) (Or.inl ⟨by rfl, ?_⟩) ?_ ?_
            rotate_left
            ·intro w'
             go_simp
             with_reducible rfl
            rotate_left
            ·simp only [Act.put, sA, sB, sC, i64_w, i32_w]
             rfl
            refine pure_ (i := 37) (N := some 52) (v := ?_) (a' := ?_) (ba 56 197568495615) rfl rfl (any_of HT_.out (by kernel_rfl)) (fun _ _ _ h => h) (Or.inl ⟨by rfl, ?_⟩) ?_ ?_
            rotate_left
            ·intro w'
             go_simp
             with_reducible rfl
            rotate_left
            ·simp only [Act.put, sA, sB, sC, i64_w, i32_w]
             rfl
            refine pure_ (i := 38) (N := some 53) (v := ?_) (a' := ?_) (ba 56 472446402559) rfl rfl (any_of HT_.out (by kernel_rfl)) (fun _ _ _ h => h) (Or.inl ⟨by rfl, ?_⟩) ?_ ?_
            rotate_left
            ·intro w'
             go_simp
             with_reducible rfl
            rotate_left
            ·simp only [Act.put, sA, sB, sC, i64_w, i32_w]
             rfl
            refine take_ (i := 33) (N := some 48) (v := ?_) (a' := ?_) (ba 56 481036337151) rfl rfl (take_ofW HT_.out HW_.out (by kernel_rfl)) (fun _ _ _ h => h) (Or.inl ⟨by rfl, ?_⟩) hHeld ?_ ?_
            rotate_left
            ·rintro w' ⟨s0, s1, s2, s3, s4, s5, s6, s7, s8, s9, s10, s11, s12, s13, s14, s15, s16, s17, s18, s19, s20, s21, s22, s23, s24, s25, s26, s27⟩
             go_simp
             with_reducible rfl
            rotate_left
            ·simp only [Act.put, sA, sB, sC, i64_w, i32_w]
             rfl
            refine take_ (i := 36) (N := some 51) (v := ?_) (a' := ?_) (ba 56 549755813887) rfl rfl (take_ofW HT_.out HW_.out (by kernel_rfl)) (fun _ _ _ h => h) (Or.inl ⟨by rfl, ?_⟩) hHeld ?_ ?_
            rotate_left
            ·rintro w' ⟨s0, s1, s2, s3, s4, s5, s6, s7, s8, s9, s10, s11, s12, s13, s14, s15, s16, s17, s18, s19, s20, s21, s22, s23, s24, s25, s26, s27⟩
             go_simp
             with_reducible rfl
            rotate_left
            ·simp only [Act.put, sA, sB, sC, i64_w, i32_w]
             rfl
            refine take_ (i := 39) (N := some 54) (v := ?_) (a' := ?_) (ba 56 1099511627775) rfl rfl (take_ofW HT_.out HW_.out (by kernel_rfl)) (fun _ _ _ h => h) (Or.inl ⟨by rfl, ?_⟩) hHeld ?_ ?_
            rotate_left
            ·rintro w' ⟨s0, s1, s2, s3, s4, s5, s6, s7, s8, s9, s10, s11, s12, s13, s14, s15, s16, s17, s18, s19, s20, s21, s22, s23, s24, s25, s26, s27⟩
             go_simp
             with_reducible rfl
            rotate_left
            ·simp only [Act.put, sA, sB, sC, i64_w, i32_w]
             rfl
            refine one_ (i := 40) (N := some 55) (ba 56 2199023255551) rfl rfl (one_of HT_.out (by kernel_rfl)) (by decide) (fun K hK => ?_)
            refine Kd.R_lit_step k35 _ 35 ?hg (N := 55) ?hd (xs := ([(⟨(⟨(rd_T35 y248 1).f0.f0, (rd_T35 y248 1).f0.f1⟩ : S33), (⟨(rd_T35 y248 1).f1.f0, (rd_T35 y248 1).f1.f1⟩ : S33)⟩ : S35), (⟨(⟨(rd_T35 y248 0).f0.f0, (rd_T35 y248 0).f0.f1⟩ : S33), (⟨(rd_T35 y248 0).f1.f0, (rd_T35 y248 0).f1.f1⟩ : S33)⟩ : S35), (⟨(⟨(rd_T35 y248 1).f0.f0, (rd_T35 y248 1).f0.f1⟩ : S33), (⟨(rd_T35 y248 1).f1.f0, (rd_T35 y248 1).f1.f1⟩ : S33)⟩ : S35)] : List (S35))) (inner := [.int .i64 ((rd_T35 y248 1).f0.f0), .int .i64 ((rd_T35 y248 1).f0.f1), .int .i64 ((rd_T35 y248 1).f1.f0), .int .i64 ((rd_T35 y248 1).f1.f1), .int .i64 ((rd_T35 y248 0).f0.f0), .int .i64 ((rd_T35 y248 0).f0.f1), .int .i64 ((rd_T35 y248 0).f1.f0), .int .i64 ((rd_T35 y248 0).f1.f1), .int .i64 ((rd_T35 y248 1).f0.f0), .int .i64 ((rd_T35 y248 1).f0.f1), .int .i64 ((rd_T35 y248 1).f1.f0), .int .i64 ((rd_T35 y248 1).f1.f1)]) (ok := fun _ => True) (okp := fun _ => True) ?hr ?hp (fun _ hk => hk) trivial (Below.refl _ _) (Nat.le_refl _) (by simp) ?_; (case hd => rfl); (case hg => rfl); (case hr => first | (go_simp; done) | (go_simp; rfl)); (case hp => exact (Reps.c4 (show Kd.M k35 _ _ _ (⟨(⟨(rd_T35 y248 1).f0.f0, (rd_T35 y248 1).f0.f1⟩ : S33), (⟨(rd_T35 y248 1).f1.f0, (rd_T35 y248 1).f1.f1⟩ : S33)⟩ : S35) [.int .i64 ((rd_T35 y248 1).f0.f0), .int .i64 ((rd_T35 y248 1).f0.f1), .int .i64 ((rd_T35 y248 1).f1.f0), .int .i64 ((rd_T35 y248 1).f1.f1)] from (k35_mkM _ _ _ (⟨(⟨(rd_T35 y248 1).f0.f0, (rd_T35 y248 1).f0.f1⟩ : S33), (⟨(rd_T35 y248 1).f1.f0, (rd_T35 y248 1).f1.f1⟩ : S33)⟩ : S35) )) (Reps.c4 (show Kd.M k35 _ _ _ (⟨(⟨(rd_T35 y248 0).f0.f0, (rd_T35 y248 0).f0.f1⟩ : S33), (⟨(rd_T35 y248 0).f1.f0, (rd_T35 y248 0).f1.f1⟩ : S33)⟩ : S35) [.int .i64 ((rd_T35 y248 0).f0.f0), .int .i64 ((rd_T35 y248 0).f0.f1), .int .i64 ((rd_T35 y248 0).f1.f0), .int .i64 ((rd_T35 y248 0).f1.f1)] from (k35_mkM _ _ _ (⟨(⟨(rd_T35 y248 0).f0.f0, (rd_T35 y248 0).f0.f1⟩ : S33), (⟨(rd_T35 y248 0).f1.f0, (rd_T35 y248 0).f1.f1⟩ : S33)⟩ : S35) )) (Reps.c4 (show Kd.M k35 _ _ _ (⟨(⟨(rd_T35 y248 1).f0.f0, (rd_T35 y248 1).f0.f1⟩ : S33), (⟨(rd_T35 y248 1).f1.f0, (rd_T35 y248 1).f1.f1⟩ : S33)⟩ : S35) [.int .i64 ((rd_T35 y248 1).f0.f0), .int .i64 ((rd_T35 y248 1).f0.f1), .int .i64 ((rd_T35 y248 1).f1.f0), .int .i64 ((rd_T35 y248 1).f1.f1)] from (k35_mkM _ _ _ (⟨(⟨(rd_T35 y248 1).f0.f0, (rd_T35 y248 1).f0.f1⟩ : S33), (⟨(rd_T35 y248 1).f1.f0, (rd_T35 y248 1).f1.f1⟩ : S33)⟩ : S35) )) (Reps.none _ _)))))
            intro v296 w76 ho77 hb hg_ hnew_
            obtain ⟨q0, q1, q2, q3, q4, q5, q6, q7, q8, q9, q10, q11, q12, q13, q14, q15, q16, q17, q18, q19, q20, q21, q22, q23, q24, q25, q26, q27⟩ := hHeld
            have HS_ := And.intro (hs hb q0) <| And.intro (hs hb q1) <| And.intro (hs hb q2) <| And.intro (hs hb q3) <| And.intro (hs hb q4) <| And.intro (hs hb q5) <| And.intro (hs hb q6) <| And.intro (hs hb q7) <| And.intro (hs hb q8) <| And.intro (hs hb q9) <| And.intro (hs hb q10) <| And.intro (hs hb q11) <| And.intro (hs hb q12) <| And.intro (hs hb q13) <| And.intro (hs hb q14) <| And.intro (hs hb q15) <| And.intro (hs hb q16) <| And.intro (hs hb q17) <| And.intro (hs hb q18) <| And.intro (hs hb q19) <| And.intro (hs hb q20) <| And.intro (hs hb q21) <| And.intro (hs hb q22) <| And.intro (hs hb q23) <| And.intro (hs hb q24) <| And.intro (hs hb q25) <| And.intro (hs hb q26) <| hs hb q27
            clear hg_ hnew_
            (first | rw [← Ny295.out] at ho77 | (simp only [Int.reduceToNat] at ho77; rw [← Ny295.out] at ho77))
            have n0_ := aM (rE (rl HO250) (Kd.R_base ho77) hb)
            have n1_ := aM (rE (rl HO261) (Kd.R_base ho77) hb)
            have n2_ := aM (rB (rl HO264) hb)
            have n3_ := aM (rE (rl HO267) (Kd.R_base ho77) hb)
            have n4_ := aM (rE (rl HO282) (Kd.R_base ho77) hb)
            have n5_ := aM (rE (rl HO287) (Kd.R_base ho77) hb)
            have n6_ := aM (Kd.R_lower (Kd.R_new' (Kd.R_new' (Kd.R_new' (Kd.R_new' (Kd.R_new' ho77 (Kd.R_lt (rl HO250))) (Kd.R_lt (rl HO261))) (Kd.R_lt (rl HO267))) (Kd.R_lt (rl HO282))) (Kd.R_lt (rl HO287))) (below_size (bl)))
            have n7_ := aM (bS (bl) hb)
            clear HO250 HO261 HO264 HO267 HO282 HO287 HB
            have HO250 := n0_
            have HO261 := n1_
            have HO264 := n2_
            have HO267 := n3_
            have HO282 := n4_
            have HO287 := n5_
            have HO297 := n6_
            have HB := n7_
            clear n0_ n1_ n2_ n3_ n4_ n5_ n6_ n7_ hb ho77
            obtain ⟨Ao78, co78, eo78⟩ := Kd.R_slice HO297.out
            (first | subst eo78 | (injection eo78 with f1_ f2_ f3_; have f4_ := f1_.symm; have f5_ := f3_.symm; clear f1_ f2_ f3_; subst f4_; subst f5_))
            refine hK.out _ _ HS_ (fun hHeld => ?_)
            clear hK K
            refine norm_ (a' := ?_) ?_ ?_
            rotate_left
            ·show Act.put _ (some 55) _ = _
             simp only [Act.put, sA, sB, sC, i64_w, i32_w]
             rfl
            refine one_ (i := 41) (N := some 56) (ba 56 4398046511103) rfl rfl (one_of HT_.out (by kernel_rfl)) (by decide) (fun K hK => ?_)
            refine goes_ Try.func17 (by kernel_rfl) rfl #[.slice Ao78 y295.length co78] (by rfl) rfl rfl (by (try simp only [List.map_toArray, List.map_cons, List.map_nil]); first | done | rfl | (simp only [List.length_drop, List.length_take]; rfl)) ?_
            with_reducible refine (noding_Odd.calls k _ _ y295 t298 _ ?side1 ?side2 A46.out).mono ?_
            (case side1 => repeat (first | exact (rR HO297.out).2.2 | (with_reducible refine cA ?_ _) | (with_reducible refine cN ?_ _) | (with_reducible refine cD ?_)))
            (case side2 => exact (rR HO297.out).2.1)
            rintro e w79 ⟨v299, rfl, ho0, hb⟩
            obtain ⟨q0, q1, q2, q3, q4, q5, q6, q7, q8, q9, q10, q11, q12, q13, q14, q15, q16, q17, q18, q19, q20, q21, q22, q23, q24, q25, q26, q27⟩ := hHeld
            have HS_ := And.intro (hs hb q0) <| And.intro (hs hb q1) <| And.intro (hs hb q2) <| And.intro (hs hb q3) <| And.intro (hs hb q4) <| And.intro (hs hb q5) <| And.intro (hs hb q6) <| And.intro (hs hb q7) <| And.intro (hs hb q8) <| And.intro (hs hb q9) <| And.intro (hs hb q10) <| And.intro (hs hb q11) <| And.intro (hs hb q12) <| And.intro (hs hb q13) <| And.intro (hs hb q14) <| And.intro (hs hb q15) <| And.intro (hs hb q16) <| And.intro (hs hb q17) <| And.intro (hs hb q18) <| And.intro (hs hb q19) <| And.intro (hs hb q20) <| And.intro (hs hb q21) <| And.intro (hs hb q22) <| And.intro (hs hb q23) <| And.intro (hs hb q24) <| And.intro (hs hb q25) <| And.intro (hs hb q26) <| hs hb q27
            refine ⟨_, rfl, ?_⟩
            replace HO264 := aM (rB (rl HO264) hb)
            have HO300 := aM (Kd.R_lower (Kd.R_new' (Kd.R_new' (Kd.R_new' (Kd.R_new' (Kd.R_new' (Kd.R_new' ho0 (Kd.R_lt (rl HO250))) (Kd.R_lt (rl HO261))) (Kd.R_lt (rl HO267))) (Kd.R_lt (rl HO282))) (Kd.R_lt (rl HO287))) (Kd.R_lt (rl HO297))) (below_size (bl)))
            replace HO250 := aM (rE (rl HO250) (Kd.R_base ho0) hb)
            replace HO261 := aM (rE (rl HO261) (Kd.R_base ho0) hb)
            replace HO267 := aM (rE (rl HO267) (Kd.R_base ho0) hb)
            replace HO282 := aM (rE (rl HO282) (Kd.R_base ho0) hb)
            replace HO287 := aM (rE (rl HO287) (Kd.R_base ho0) hb)
            replace HO297 := aM (rE (rl HO297) (Kd.R_base ho0) hb)
            replace HB := aM (bS (bl) hb)
            (try clear hb)
            (try clear hb2)
            (try clear hk)
            (try clear hi)
            (try clear ho0)
            refine hK.out _ _ HS_ (fun hHeld => ?_)
            clear hK K
            refine norm_ (a' := ?_) ?_ ?_
            rotate_left
            ·show Act.put _ (some 56) _ = _
             simp only [Act.put, sA, sB, sC, i64_w, i32_w]
             rfl
            refine one_ (i := 42) (N := some 57) (ba 56 8796093022207) rfl rfl (one_of HT_.out (by kernel_rfl)) (by decide) (fun K hK => ?_)
            refine goes_ Try.func28 (by kernel_rfl) rfl #[.int .i64 0, .int .i64 0, .int .i64 4, .int .i64 0] (by rfl) rfl rfl (by (try simp only [List.map_toArray, List.map_cons, List.map_nil]); first | done | rfl | (simp only [List.length_drop, List.length_take]; rfl)) ?_
            with_reducible refine (mapmakerlaw20_seg.calls 0 0 4 0 t301 t302 t303 t304 _ A47.out).mono ?_
            rintro e w80 ⟨rfl, hb⟩
            obtain ⟨q0, q1, q2, q3, q4, q5, q6, q7, q8, q9, q10, q11, q12, q13, q14, q15, q16, q17, q18, q19, q20, q21, q22, q23, q24, q25, q26, q27⟩ := hHeld
            have HS_ := And.intro (hs hb q0) <| And.intro (hs hb q1) <| And.intro (hs hb q2) <| And.intro (hs hb q3) <| And.intro (hs hb q4) <| And.intro (hs hb q5) <| And.intro (hs hb q6) <| And.intro (hs hb q7) <| And.intro (hs hb q8) <| And.intro (hs hb q9) <| And.intro (hs hb q10) <| And.intro (hs hb q11) <| And.intro (hs hb q12) <| And.intro (hs hb q13) <| And.intro (hs hb q14) <| And.intro (hs hb q15) <| And.intro (hs hb q16) <| And.intro (hs hb q17) <| And.intro (hs hb q18) <| And.intro (hs hb q19) <| And.intro (hs hb q20) <| And.intro (hs hb q21) <| And.intro (hs hb q22) <| And.intro (hs hb q23) <| And.intro (hs hb q24) <| And.intro (hs hb q25) <| And.intro (hs hb q26) <| hs hb q27
            refine ⟨_, rfl, ?_⟩
            replace HO250 := aM (rB (rl HO250) hb)
            replace HO261 := aM (rB (rl HO261) hb)
            replace HO264 := aM (rB (rl HO264) hb)
            replace HO267 := aM (rB (rl HO267) hb)
            replace HO282 := aM (rB (rl HO282) hb)
            replace HO287 := aM (rB (rl HO287) hb)
            replace HO297 := aM (rB (rl HO297) hb)
            replace HO300 := aM (rB (rl HO300) hb)
            replace HB := aM (bS (bl) hb)
            (try clear hb)
            (try clear hb2)
            (try clear hk)
            (try clear hi)
            refine hK.out _ _ HS_ (fun hHeld => ?_)
            clear hK K
            refine norm_ (a' := ?_) ?_ ?_
            rotate_left
            ·show Act.put _ (some 57) _ = _
             simp only [Act.put, sA, sB, sC, i64_w, i32_w]
             rfl
            refine one_ (i := 43) (N := some 58) (ba 56 17592186044415) rfl rfl (one_of HT_.out (by kernel_rfl)) (by decide) (fun K hK => ?_)
            refine Kd.R_lit_step k35 _ 35 ?hg (N := 58) ?hd (xs := ([(⟨(⟨t301, t302⟩ : S33), (⟨t303, t304⟩ : S33)⟩ : S35)] : List (S35))) (inner := [.int .i64 t301, .int .i64 t302, .int .i64 t303, .int .i64 t304]) (ok := fun _ => True) (okp := fun _ => True) ?hr ?hp (fun _ hk => hk) trivial (Below.refl _ _) (Nat.le_refl _) (by simp) ?_; (case hd => rfl); (case hg => rfl); (case hr => first | (go_simp; done) | (go_simp; rfl)); (case hp => exact (Reps.c4 (show Kd.M k35 _ _ _ (⟨(⟨t301, t302⟩ : S33), (⟨t303, t304⟩ : S33)⟩ : S35) [.int .i64 t301, .int .i64 t302, .int .i64 t303, .int .i64 t304] from (k35_mkM _ _ _ (⟨(⟨t301, t302⟩ : S33), (⟨t303, t304⟩ : S33)⟩ : S35) )) (Reps.none _ _)))
            intro v306 w81 ho82 hb hg_ hnew_
            obtain ⟨q0, q1, q2, q3, q4, q5, q6, q7, q8, q9, q10, q11, q12, q13, q14, q15, q16, q17, q18, q19, q20, q21, q22, q23, q24, q25, q26, q27⟩ := hHeld
            have HS_ := And.intro (hs hb q0) <| And.intro (hs hb q1) <| And.intro (hs hb q2) <| And.intro (hs hb q3) <| And.intro (hs hb q4) <| And.intro (hs hb q5) <| And.intro (hs hb q6) <| And.intro (hs hb q7) <| And.intro (hs hb q8) <| And.intro (hs hb q9) <| And.intro (hs hb q10) <| And.intro (hs hb q11) <| And.intro (hs hb q12) <| And.intro (hs hb q13) <| And.intro (hs hb q14) <| And.intro (hs hb q15) <| And.intro (hs hb q16) <| And.intro (hs hb q17) <| And.intro (hs hb q18) <| And.intro (hs hb q19) <| And.intro (hs hb q20) <| And.intro (hs hb q21) <| And.intro (hs hb q22) <| And.intro (hs hb q23) <| And.intro (hs hb q24) <| And.intro (hs hb q25) <| And.intro (hs hb q26) <| hs hb q27
            clear hg_ hnew_
            (first | rw [← Ny305.out] at ho82 | (simp only [Int.reduceToNat] at ho82; rw [← Ny305.out] at ho82))
            have n0_ := aM (rE (rl HO250) (Kd.R_base ho82) hb)
            have n1_ := aM (rE (rl HO261) (Kd.R_base ho82) hb)
            have n2_ := aM (rB (rl HO264) hb)
            have n3_ := aM (rE (rl HO267) (Kd.R_base ho82) hb)
            have n4_ := aM (rE (rl HO282) (Kd.R_base ho82) hb)
            have n5_ := aM (rE (rl HO287) (Kd.R_base ho82) hb)
            have n6_ := aM (rE (rl HO297) (Kd.R_base ho82) hb)
            have n7_ := aM (rE (rl HO300) (Kd.R_base ho82) hb)
            have n8_ := aM (Kd.R_lower (Kd.R_new' (Kd.R_new' (Kd.R_new' (Kd.R_new' (Kd.R_new' (Kd.R_new' (Kd.R_new' ho82 (Kd.R_lt (rl HO250))) (Kd.R_lt (rl HO261))) (Kd.R_lt (rl HO267))) (Kd.R_lt (rl HO282))) (Kd.R_lt (rl HO287))) (Kd.R_lt (rl HO297))) (Kd.R_lt (rl HO300))) (below_size (bl)))
            have n9_ := aM (bS (bl) hb)
            clear HO250 HO261 HO264 HO267 HO282 HO287 HO297 HO300 HB
            have HO250 := n0_
            have HO261 := n1_
            have HO264 := n2_
            have HO267 := n3_
            have HO282 := n4_
            have HO287 := n5_
            have HO297 := n6_
            have HO300 := n7_
            have HO307 := n8_
            have HB := n9_
            clear n0_ n1_ n2_ n3_ n4_ n5_ n6_ n7_ n8_ n9_ hb ho82
            obtain ⟨Ao83, co83, eo83⟩ := Kd.R_slice HO300.out
            (first | subst eo83 | (injection eo83 with f1_ f2_ f3_; have f4_ := f1_.symm; have f5_ := f3_.symm; clear f1_ f2_ f3_; subst f4_; subst f5_))
            obtain ⟨Ao84, co84, eo84⟩ := Kd.R_slice HO307.out
            (first | subst eo84 | (injection eo84 with f1_ f2_ f3_; have f4_ := f1_.symm; have f5_ := f3_.symm; clear f1_ f2_ f3_; subst f4_; subst f5_))
            refine hK.out _ _ HS_ (fun hHeld => ?_)
            clear hK K
            refine norm_ (a' := ?_) ?_ ?_
            rotate_left
            ·show Act.put _ (some 58) _ = _
             simp only [Act.put, sA, sB, sC, i64_w, i32_w]
             rfl
            refine one_ (i := 44) (N := some 59) (ba 56 35184372088831) rfl rfl (one_of HT_.out (by kernel_rfl)) (by decide) (fun K hK => ?_)
            refine goes_ Try.func10 (by kernel_rfl) rfl #[.slice Ao83 t298.length co83, .slice Ao84 y305.length co84] (by rfl) rfl rfl (by (try simp only [List.map_toArray, List.map_cons, List.map_nil]); first | done | rfl | (simp only [List.length_drop, List.length_take]; rfl)) ?_
            with_reducible refine (mapmakerref20_Same.calls k _ _ t298 _ _ y305 true _ ?side1 ?side2 ?side3 ?side4 A48.out).mono ?_
            (case side1 => repeat (first | exact (rR HO300.out).2.2 | (with_reducible refine cA ?_ _) | (with_reducible refine cN ?_ _) | (with_reducible refine cD ?_)))
            (case side2 => exact (rR HO300.out).2.1)
            (case side3 => repeat (first | exact (rR HO307.out).2.2 | (with_reducible refine cA ?_ _) | (with_reducible refine cN ?_ _) | (with_reducible refine cD ?_)))
            (case side4 => exact (rR HO307.out).2.1)
            rintro e w' ⟨rfl, ⟨nd, rfl⟩⟩
            refine ⟨_, rfl, ?_⟩
            refine hK.out _ _ ⟨hHeld.1, hHeld.2.1, hHeld.2.2.1, hHeld.2.2.2.1, hHeld.2.2.2.2.1, hHeld.2.2.2.2.2.1, hHeld.2.2.2.2.2.2.1, hHeld.2.2.2.2.2.2.2.1, hHeld.2.2.2.2.2.2.2.2.1, hHeld.2.2.2.2.2.2.2.2.2.1, hHeld.2.2.2.2.2.2.2.2.2.2.1, hHeld.2.2.2.2.2.2.2.2.2.2.2.1, hHeld.2.2.2.2.2.2.2.2.2.2.2.2.1, hHeld.2.2.2.2.2.2.2.2.2.2.2.2.2.1, hHeld.2.2.2.2.2.2.2.2.2.2.2.2.2.2.1, hHeld.2.2.2.2.2.2.2.2.2.2.2.2.2.2.2.1, hHeld.2.2.2.2.2.2.2.2.2.2.2.2.2.2.2.2.1, hHeld.2.2.2.2.2.2.2.2.2.2.2.2.2.2.2.2.2.1, hHeld.2.2.2.2.2.2.2.2.2.2.2.2.2.2.2.2.2.2.1, hHeld.2.2.2.2.2.2.2.2.2.2.2.2.2.2.2.2.2.2.2.1, hHeld.2.2.2.2.2.2.2.2.2.2.2.2.2.2.2.2.2.2.2.2.1, hHeld.2.2.2.2.2.2.2.2.2.2.2.2.2.2.2.2.2.2.2.2.2.1, hHeld.2.2.2.2.2.2.2.2.2.2.2.2.2.2.2.2.2.2.2.2.2.2.1, hHeld.2.2.2.2.2.2.2.2.2.2.2.2.2.2.2.2.2.2.2.2.2.2.2.1, hHeld.2.2.2.2.2.2.2.2.2.2.2.2.2.2.2.2.2.2.2.2.2.2.2.2.1, hHeld.2.2.2.2.2.2.2.2.2.2.2.2.2.2.2.2.2.2.2.2.2.2.2.2.2.1, hHeld.2.2.2.2.2.2.2.2.2.2.2.2.2.2.2.2.2.2.2.2.2.2.2.2.2.2.1, hHeld.2.2.2.2.2.2.2.2.2.2.2.2.2.2.2.2.2.2.2.2.2.2.2.2.2.2.2⟩ (fun hHeld => ?_)
            clear hK K
            refine norm_ (a' := ?_) ?_ ?_
            rotate_left
            ·show Act.put _ (some 59) _ = _
             simp only [Act.put, sA, sB, sC, i64_w, i32_w]
             rfl
            refine pure_ (i := 45) (N := some 60) (v := ?_) (a' := ?_) (ba 56 70368744177663) rfl rfl (any_of HT_.out (by kernel_rfl)) (fun _ _ _ h => h) (Or.inl ⟨by rfl, ?_⟩) ?_ ?_
            rotate_left
            ·intro w'
             go_simp
             with_reducible rfl
            rotate_left
            ·simp only [Act.put, sA, sB, sC, i64_w, i32_w]
             rfl
            refine pure_ (i := 46) (N := some 61) (v := ?_) (a' := ?_) (ba 56 140737488355327) rfl rfl (any_of HT_.out (by kernel_rfl)) (fun _ _ _ h => h) (Or.inl ⟨by rfl, ?_⟩) ?_ ?_
            rotate_left
            ·intro w'
             go_simp
             with_reducible rfl
            rotate_left
            ·simp only [Act.put, sA, sB, sC, i64_w, i32_w]
             rfl
            refine pure_ (i := 47) (N := some 62) (v := ?_) (a' := ?_) (ba 56 281474976710655) rfl rfl (any_of HT_.out (by kernel_rfl)) (fun _ _ _ h => h) (Or.inl ⟨by rfl, ?_⟩) ?_ ?_
            rotate_left
            ·intro w'
             go_simp
             with_reducible rfl
            rotate_left
            ·simp only [Act.put, sA, sB, sC, i64_w, i32_w]
             rfl
            refine pure_ (i := 48) (N := some 63) (v := ?_) (a' := ?_) (ba 56 562949953421311) rfl rfl (any_of HT_.out (by kernel_rfl)) (fun _ _ _ h => h) (Or.inl ⟨by rfl, ?_⟩) ?_ ?_
            rotate_left
            ·intro w'
             go_simp
             with_reducible rfl
            rotate_left
            ·simp only [Act.put, sA, sB, sC, i64_w, i32_w]
             rfl
            refine pure_ (i := 49) (N := some 64) (v := ?_) (a' := ?_) (ba 56 1125899906842623) rfl rfl (any_of HT_.out (by kernel_rfl)) (fun _ _ _ h => h) (Or.inl ⟨by rfl, ?_⟩) ?_ ?_
            rotate_left
            ·intro w'
             go_simp
             with_reducible rfl
            rotate_left
            ·simp only [Act.put, sA, sB, sC, i64_w, i32_w]
             rfl
            refine one_ (i := 50) (N := some 65) (ba 56 2251799813685247) rfl rfl (one_of HT_.out (by kernel_rfl)) (by decide) (fun K hK => ?_)
            refine Kd.R_lit_step k33 _ 33 ?hg (N := 65) ?hd (xs := ([(⟨1, 0⟩ : S33), (⟨1, 0⟩ : S33), (⟨2, 0⟩ : S33)] : List (S33))) (inner := [.int .i64 1, .int .i64 0, .int .i64 1, .int .i64 0, .int .i64 2, .int .i64 0]) (ok := fun _ => True) (okp := fun _ => True) ?hr ?hp (fun _ hk => hk) trivial (Below.refl _ _) (Nat.le_refl _) (by simp) ?_; (case hd => rfl); (case hg => rfl); (case hr => first | (go_simp; done) | (go_simp; rfl)); (case hp => exact (Reps.c2 (show Kd.M k33 _ _ _ (⟨1, 0⟩ : S33) [.int .i64 1, .int .i64 0] from (k33_mkM _ _ _ (⟨1, 0⟩ : S33) )) (Reps.c2 (show Kd.M k33 _ _ _ (⟨1, 0⟩ : S33) [.int .i64 1, .int .i64 0] from (k33_mkM _ _ _ (⟨1, 0⟩ : S33) )) (Reps.c2 (show Kd.M k33 _ _ _ (⟨2, 0⟩ : S33) [.int .i64 2, .int .i64 0] from (k33_mkM _ _ _ (⟨2, 0⟩ : S33) )) (Reps.none _ _)))))
            intro v310 w85 ho86 hb hg_ hnew_
            obtain ⟨q0, q1, q2, q3, q4, q5, q6, q7, q8, q9, q10, q11, q12, q13, q14, q15, q16, q17, q18, q19, q20, q21, q22, q23, q24, q25, q26, q27⟩ := hHeld
            have HS_ := And.intro (hs hb q0) <| And.intro (hs hb q1) <| And.intro (hs hb q2) <| And.intro (hs hb q3) <| And.intro (hs hb q4) <| And.intro (hs hb q5) <| And.intro (hs hb q6) <| And.intro (hs hb q7) <| And.intro (hs hb q8) <| And.intro (hs hb q9) <| And.intro (hs hb q10) <| And.intro (hs hb q11) <| And.intro (hs hb q12) <| And.intro (hs hb q13) <| And.intro (hs hb q14) <| And.intro (hs hb q15) <| And.intro (hs hb q16) <| And.intro (hs hb q17) <| And.intro (hs hb q18) <| And.intro (hs hb q19) <| And.intro (hs hb q20) <| And.intro (hs hb q21) <| And.intro (hs hb q22) <| And.intro (hs hb q23) <| And.intro (hs hb q24) <| And.intro (hs hb q25) <| And.intro (hs hb q26) <| hs hb q27
            clear hg_ hnew_
            (first | rw [← Ny309.out] at ho86 | (simp only [Int.reduceToNat] at ho86; rw [← Ny309.out] at ho86))
            have n0_ := aM (rB (rl HO250) hb)
            have n1_ := aM (rB (rl HO261) hb)
            have n2_ := aM (rB (rl HO264) hb)
            have n3_ := aM (rB (rl HO267) hb)
            have n4_ := aM (rB (rl HO282) hb)
            have n5_ := aM (rB (rl HO287) hb)
            have n6_ := aM (rB (rl HO297) hb)
            have n7_ := aM (rB (rl HO300) hb)
            have n8_ := aM (rB (rl HO307) hb)
            have n9_ := aM (Kd.R_lower ho86 (below_size (bl)))
            have n10_ := aM (bS (bl) hb)
            clear HO250 HO261 HO264 HO267 HO282 HO287 HO297 HO300 HO307 HB
            have HO250 := n0_
            have HO261 := n1_
            have HO264 := n2_
            have HO267 := n3_
            have HO282 := n4_
            have HO287 := n5_
            have HO297 := n6_
            have HO300 := n7_
            have HO307 := n8_
            have HO311 := n9_
            have HB := n10_
            clear n0_ n1_ n2_ n3_ n4_ n5_ n6_ n7_ n8_ n9_ n10_ hb ho86
            obtain ⟨Ao87, co87, eo87⟩ := Kd.R_slice HO311.out
            (first | subst eo87 | (injection eo87 with f1_ f2_ f3_; have f4_ := f1_.symm; have f5_ := f3_.symm; clear f1_ f2_ f3_; subst f4_; subst f5_))
            refine hK.out _ _ HS_ (fun hHeld => ?_)
            clear hK K
            refine norm_ (a' := ?_) ?_ ?_
            rotate_left
            ·show Act.put _ (some 65) _ = _
             simp only [Act.put, sA, sB, sC, i64_w, i32_w]
             rfl
            refine one_ (i := 51) (N := some 66) (ba 56 4503599627370495) rfl rfl (one_of HT_.out (by kernel_rfl)) (by decide) (fun K hK => ?_)
            refine goes_ Try.func11 (by kernel_rfl) rfl #[.slice Ao87 y309.length co87] (by rfl) rfl rfl (by (try simp only [List.map_toArray, List.map_cons, List.map_nil]); first | done | rfl | (simp only [List.length_drop, List.length_take]; rfl)) ?_
            with_reducible refine (noding_Of.calls k _ _ y309 t312 _ ?side1 ?side2 A50.out).mono ?_
            (case side1 => repeat (first | exact (rR HO311.out).2.2 | (with_reducible refine cA ?_ _) | (with_reducible refine cN ?_ _) | (with_reducible refine cD ?_)))
            (case side2 => exact (rR HO311.out).2.1)
            rintro e w88 ⟨v313, rfl, ho0, hb⟩
            obtain ⟨q0, q1, q2, q3, q4, q5, q6, q7, q8, q9, q10, q11, q12, q13, q14, q15, q16, q17, q18, q19, q20, q21, q22, q23, q24, q25, q26, q27⟩ := hHeld
            have HS_ := And.intro (hs hb q0) <| And.intro (hs hb q1) <| And.intro (hs hb q2) <| And.intro (hs hb q3) <| And.intro (hs hb q4) <| And.intro (hs hb q5) <| And.intro (hs hb q6) <| And.intro (hs hb q7) <| And.intro (hs hb q8) <| And.intro (hs hb q9) <| And.intro (hs hb q10) <| And.intro (hs hb q11) <| And.intro (hs hb q12) <| And.intro (hs hb q13) <| And.intro (hs hb q14) <| And.intro (hs hb q15) <| And.intro (hs hb q16) <| And.intro (hs hb q17) <| And.intro (hs hb q18) <| And.intro (hs hb q19) <| And.intro (hs hb q20) <| And.intro (hs hb q21) <| And.intro (hs hb q22) <| And.intro (hs hb q23) <| And.intro (hs hb q24) <| And.intro (hs hb q25) <| And.intro (hs hb q26) <| hs hb q27
            refine ⟨_, rfl, ?_⟩
            replace HO264 := aM (rB (rl HO264) hb)
            replace HO311 := aM (rB (rl HO311) hb)
            have HO314 := aM (Kd.R_lower (Kd.R_new' (Kd.R_new' (Kd.R_new' (Kd.R_new' (Kd.R_new' (Kd.R_new' (Kd.R_new' (Kd.R_new' ho0 (Kd.R_lt (rl HO250))) (Kd.R_lt (rl HO261))) (Kd.R_lt (rl HO267))) (Kd.R_lt (rl HO282))) (Kd.R_lt (rl HO287))) (Kd.R_lt (rl HO297))) (Kd.R_lt (rl HO300))) (Kd.R_lt (rl HO307))) (below_size (bl)))
            replace HO250 := aM (rE (rl HO250) (Kd.R_base ho0) hb)
            replace HO261 := aM (rE (rl HO261) (Kd.R_base ho0) hb)
            replace HO267 := aM (rE (rl HO267) (Kd.R_base ho0) hb)
            replace HO282 := aM (rE (rl HO282) (Kd.R_base ho0) hb)
            replace HO287 := aM (rE (rl HO287) (Kd.R_base ho0) hb)
            replace HO297 := aM (rE (rl HO297) (Kd.R_base ho0) hb)
            replace HO300 := aM (rE (rl HO300) (Kd.R_base ho0) hb)
            replace HO307 := aM (rE (rl HO307) (Kd.R_base ho0) hb)
            replace HB := aM (bS (bl) hb)
            (try clear hb)
            (try clear hb2)
            (try clear hk)
            (try clear hi)
            (try clear ho0)
            obtain ⟨Ao89, co89, eo89⟩ := Kd.R_slice HO314.out
            (first | subst eo89 | (injection eo89 with f1_ f2_ f3_; have f4_ := f1_.symm; have f5_ := f3_.symm; clear f1_ f2_ f3_; subst f4_; subst f5_))
            refine hK.out _ _ HS_ (fun hHeld => ?_)
            clear hK K
            refine norm_ (a' := ?_) ?_ ?_
            rotate_left
            ·show Act.put _ (some 66) _ = _
             simp only [Act.put, sA, sB, sC, i64_w, i32_w]
             rfl
            refine pure_ (i := 52) (N := some 67) (v := ?_) (a' := ?_) (ba 56 9007199254740991) rfl rfl (any_of HT_.out (by kernel_rfl)) (fun _ _ _ h => h) (Or.inl ⟨by rfl, ?_⟩) ?_ ?_
            rotate_left
            ·intro w'
             go_simp
             with_reducible rfl
            rotate_left
            ·simp only [Act.put, sA, sB, sC, i64_w, i32_w]
             rfl
            refine pure_ (i := 53) (N := some 68) (v := ?_) (a' := ?_) (ba 56 18014398509481983) rfl rfl (any_of HT_.out (by kernel_rfl)) (fun _ _ _ h => h) (Or.inl ⟨by rfl, ?_⟩) ?_ ?_
            rotate_left
            ·intro w'
             go_simp
             with_reducible rfl
            rotate_left
            ·simp only [Act.put, sA, sB, sC, i64_w, i32_w]
             rfl
            refine pure_ (i := 54) (N := some 69) (v := ?_) (a' := ?_) (ba 56 36028797018963967) rfl rfl (any_of HT_.out (by kernel_rfl)) (fun _ _ _ h => h) (Or.inl ⟨by rfl, ?_⟩) ?_ ?_
            rotate_left
            ·intro w'
             go_simp
             with_reducible rfl
            rotate_left
            ·simp only [Act.put, sA, sB, sC, i64_w, i32_w]
             rfl
            refine pure_ (i := 55) (N := some 0) (v := ?_) (a' := ?_) (ba 56 72057594037927935) rfl rfl (any_of HT_.out (by kernel_rfl)) (fun _ _ _ h => h) (Or.inl ⟨by rfl, ?_⟩) ?_ ?_
            rotate_left
            ·intro w'
             go_simp
             with_reducible rfl
            rotate_left
            ·simp only [Act.put, sA, sB, sC, i64_w, i32_w]
             rfl
            refine done_ (done_of HT_.out (by kernel_rfl)) ?_
            try go_wp2
            go_ret
            exact ⟨by first | rfl | (simp [errW_none, errW_some] <;> rfl) | (simp [*, errW_none, errW_some] <;> rfl), bl⟩
           ·replace c49 := Bool.eq_false_iff.mpr c49
            subst c49
            have H1 : (some false) = some r := by rw [if_neg (show ¬ (false = true) by decide)] at H; exact H
            clear H
            have H := H1
            clear H1
            obtain rfl := Option.some.inj H
            cases hT
          ·rw [if_neg c45] at H
           exact absurd H (by simp)
         ·rw [if_neg c44] at H
          exact absurd H (by simp)
        ·rw [if_neg c43] at H
         have c43b0 : (((((rd_T36 t262 0).f0.f0.f0) == ((rd_T35 y259 0).f0.f0) && (((rd_T36 t262 0).f0.f0.f1) == ((rd_T35 y259 0).f0.f1))) && ((((rd_T36 t262 0).f0.f1.f0) == ((rd_T35 y259 0).f1.f0) && (((rd_T36 t262 0).f0.f1.f1) == ((rd_T35 y259 0).f1.f1))))) && (((((rd_T36 t262 0).f1.f0.f0) == ((rd_T35 y259 1).f0.f0) && (((rd_T36 t262 0).f1.f0.f1) == ((rd_T35 y259 1).f0.f1))) && ((((rd_T36 t262 0).f1.f1.f0) == ((rd_T35 y259 1).f1.f0) && (((rd_T36 t262 0).f1.f1.f1) == ((rd_T35 y259 1).f1.f1))))))) = false := by simpa using c43
         clear c43
         obtain rfl := Option.some.inj H
         cases hT
       ·rw [if_neg c42] at H
        exact absurd H (by simp)
      ·rw [if_neg c41] at H
       exact absurd H (by simp)
     ·rw [if_neg c40] at H
      exact absurd H (by simp)
    ·replace c39 := Bool.eq_false_iff.mpr c39
     subst c39
     have H1 : (some false) = some r := by rw [if_neg (show ¬ (false = true) by decide)] at H; exact H
     clear H
     have H := H1
     clear H1
     obtain rfl := Option.some.inj H
     cases hT
  ·replace c12 := Bool.eq_false_iff.mpr c12
   subst c12
   have H1 : (some false) = some r := by rw [if_neg (show ¬ (false = true) by decide)] at H; exact H
   clear H
   have H := H1
   clear H1
   obtain rfl := Option.some.inj H
   cases hT
 ·rw [if_neg c6] at H
  have c6b0 : ((t262.length : Int) == 1) = false := beq_eq_false_iff_ne.mpr c6
  have c6b1 : ((t262.length : Int) != 1) = true := bne_iff_ne.mpr c6
  obtain rfl := Option.some.inj H
  cases hT
def mapmakerlaw20_lives.f (k : Nat)  : Option Bool := (mapmakerlaw20_livesG.f k ).bind fun b => if b = true then some true else none
theorem mapmakerlaw20_lives.mono : ∀ k, LeO (mapmakerlaw20_lives.f k ) (mapmakerlaw20_lives.f (k + 1) ) := by
 intros
 unfold mapmakerlaw20_lives.f
 exact LeO.bind (mapmakerlaw20_livesG.mono _) (fun _ => LeO.refl _)
theorem mapmakerlaw20_lives.calls (k : Nat)  (r : Bool) (w : World) (h : mapmakerlaw20_lives.f k = some r) :
  Calls Try.prog 9 #[] w fun e w' => e = .returned (.bool r) ∧ Below w.heap.size w w' := by
 obtain ⟨b, hb, h⟩ := Option.bind_eq_some_iff.mp (show (mapmakerlaw20_livesG.f k ).bind _ = some r from h)
 cases b with
 | false => exact absurd h (by simp)
 | true =>
  obtain rfl := Option.some.inj (show some true = some r from h)
  exact mapmakerlaw20_livesG.callsT k true w  hb rfl
end Go.Proofs.Ytmejeiddlhjjmaa.PNodingClean
