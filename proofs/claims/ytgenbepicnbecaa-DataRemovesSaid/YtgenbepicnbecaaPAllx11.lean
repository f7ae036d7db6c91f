-- out of a driver of this session's prover over the kit's print: Lean checks it
import Derived.Test.YtgenbepicnbecaaPAllx0
import Derived.Test.YtgenbepicnbecaaPAllx7
import Derived.Test.YtgenbepicnbecaaPAllx8
import Derived.Test.YtgenbepicnbecaaPAllx10
namespace Go.Proofs.Ytgenbepicnbecaa.PAll
open Go.Proofs.YtgenbepicnbecaaG Go.Shelf Go.Lib
open Go.RowKit Go.Proofs.YtgenbepicnbecaaW.PrintWords Go.Proofs.YtgenbepicnbecaaW.PrintLast Go.Proofs.YtgenbepicnbecaaW.PrintMore
attribute [local go_sem] max2_int min2_int max_two min_two max_three min_three max_four min_four   -- for this text's walks alone
set_option linter.unusedVariables false
set_option linter.unusedSimpArgs false
def slices_Contains_int_int.f (k : Nat) (l0 : List Int) (a1 : Int) : Option (Bool) := (slices_Index_int_int.f k l0 a1).bind fun t157 => (some (decide (t157 ≥ 0)))
theorem slices_Contains_int_int.mono : ∀ a0 a1 k, LeO (slices_Contains_int_int.f k a0 a1) (slices_Contains_int_int.f (k + 1) a0 a1) := by
 intro a0 a1 k
 unfold slices_Contains_int_int.f
 repeat' first
   | (with_reducible exact slices_Index_int_int.mono _ _ _)
   | (with_reducible exact LeO.refl _)
   | (with_reducible exact LeO.none _)
   | (with_reducible refine LeO.ite ?_ ?_)
   | (with_reducible refine LeO.bind ?_ (fun _ => ?_))
   | exact slices_Index_int_int.mono _ _ _
   | exact LeO.none _
   | refine LeO.ite ?_ ?_
   | refine LeO.bind ?_ (fun _ => ?_)
set_option maxHeartbeats 8000000 in
set_option maxRecDepth 100000 in
theorem slices_Contains_int_int.calls (k : Nat) (A0 : Option Addr) (c0 : Nat) (l0 : List Int) (a1 : Int) (r : Bool) (w : World) (hr0 : Kd.C (Kd.int .i64) w A0 l0.length l0) (hc0 : l0.length ≤ c0) (h : slices_Contains_int_int.f k l0 a1 = some r) :
  Calls Try.prog 51 #[.slice A0 l0.length c0, .int .i64 a1] w fun e w' => e = .returned (.bool r) ∧ Drawn0 w w' := by
 have HR0 := aM hr0
 have HC0 := aM hc0
 clear hr0 hc0
 have H : ((slices_Index_int_int.f k l0 a1).bind fun t157 => (some (decide (t157 ≥ 0)))) = some r := h
 clear h
 replace H := Option.bind_eq_some_iff.mp H
 obtain ⟨t157, A30, H⟩ := H
 try dsimp only at H
 have A3 := aM A30
 clear A30
 obtain rfl := Option.some.inj H
 go_enter Try.func51, Try.ntmps51
 go_wp2_with (first | ((with_reducible refine gate_callee (f := 83) rfl ?_); refine gL (some 7) Try.func83 #[.slice A0 l0.length c0, .int .i64 a1] ?_; (with_reducible refine (slices_Index_int_int.calls k _ _ l0 a1 t157 _ ?side1 ?side2 A3.out).mono ?_); (case side1 => repeat (first | exact HR0.out | (with_reducible refine cA ?_ _) | (with_reducible refine cN ?_ _) | (with_reducible refine cD ?_))); (case side2 => exact HC0.out); rintro e w' ⟨rfl, ⟨nd, rfl⟩⟩; refine ⟨_, rfl, ?_⟩))
 go_ret
 exact ⟨by first | rfl | (simp; done) | (simp [*]; done), by repeat (first | exact Drawn0.refl _ | apply Drawn0.step)⟩
def cmp_Or_int.l0 : Nat → Int → List Int → Int → Int → Option (Int)
 | 0, _, _, _, _ => none
 | k + 1, x3, x6, x7, x8 => if x8 < x7 then (if 0 ≤ x8 then (if x8 < (x6.length : Int) then (if (rd x6 x8) = x3 then (cmp_Or_int.l0 k x3 x6 x7 (wrap64 (x8 + 1))) else (some (rd x6 x8))) else (none)) else (none)) else (some x3)
def cmp_Or_int.f (k : Nat) (l0 : List Int) : Option (Int) := cmp_Or_int.l0 k 0 l0 (l0.length : Int) 0
theorem cmp_Or_int.mono_l : ∀ k, (∀ y0 y1 y2 y3, LeO (cmp_Or_int.l0 k y0 y1 y2 y3) (cmp_Or_int.l0 (k + 1) y0 y1 y2 y3))
 | 0 => fun _ _ _ _ r h => by simp [cmp_Or_int.l0] at h
 | k + 1 => by
  have ih0 := cmp_Or_int.mono_l k
  ·intro y0 y1 y2 y3
   unfold cmp_Or_int.l0
   repeat' first
   | (with_reducible exact ih0 _ _ _ _)
   | (with_reducible exact LeO.refl _)
   | (with_reducible exact LeO.none _)
   | (with_reducible refine LeO.ite ?_ ?_)
   | (with_reducible refine LeO.bind ?_ (fun _ => ?_))
   | exact ih0 _ _ _ _
   | exact LeO.none _
   | refine LeO.ite ?_ ?_
   | refine LeO.bind ?_ (fun _ => ?_)
theorem cmp_Or_int.mono : ∀ a0 k, LeO (cmp_Or_int.f k a0) (cmp_Or_int.f (k + 1) a0) := by
 intro a0 k
 have ih0 := cmp_Or_int.mono_l k
 unfold cmp_Or_int.f
 repeat' first
   | (with_reducible exact ih0 _ _ _ _)
   | (with_reducible exact LeO.refl _)
   | (with_reducible exact LeO.none _)
   | (with_reducible refine LeO.ite ?_ ?_)
   | (with_reducible refine LeO.bind ?_ (fun _ => ?_))
   | exact ih0 _ _ _ _
   | exact LeO.none _
   | refine LeO.ite ?_ ?_
   | refine LeO.bind ?_ (fun _ => ?_)
set_option maxHeartbeats 8000000 in
set_option maxRecDepth 100000 in
theorem cmp_Or_int.calls (k : Nat) (A0 : Option Addr) (c0 : Nat) (l0 : List Int) (r : Int) (w : World) (hr0 : Kd.C (Kd.int .i64) w A0 l0.length l0) (hc0 : l0.length ≤ c0) (h : cmp_Or_int.f k l0 = some r) :
  Calls Try.prog 56 #[.slice A0 l0.length c0] w fun e w' => e = .returned (.int .i64 r) ∧ Drawn0 w w' := by
 have HR0 := aM hr0
 have HC0 := aM hc0
 clear hr0 hc0
 have H : (cmp_Or_int.l0 k 0 l0 (l0.length : Int) 0) = some r := h
 clear h
 have H' := aM H
 clear H
 go_enter Try.func56, Try.ntmps56
 go_wp2
 go_loopg [8] k (fun kq v8 w' => ∃ (x8_1 : Int), v8 = .int .i64 x8_1 ∧ Aside0 (cmp_Or_int.l0 kq 0 l0 (l0.length : Int) x8_1 = some r) ∧ Aside0 (kq ≤ k) ∧ Drawn0 w w')
 case atStart => exact ⟨(0), (by first | rfl | (simp; done) | (simp [*]; done)), H', ⟨Nat.le_refl _⟩, by repeat (first | exact Drawn0.refl _ | apply Drawn0.step)⟩
 case round =>
  clear H'
  obtain ⟨x8_1, rfl, HA, HK1, ⟨m1, rfl⟩⟩ := hrel
  cases gk with
  | zero => exact absurd HA.out (by simp [cmp_Or_int.l0])
  | succ k1 =>
   have H := HA.out
   clear HA
   simp only [cmp_Or_int.l0] at H
   by_cases c2 : x8_1 < (l0.length : Int)
   ·rw [if_pos c2] at H
    have c2b0 : decide (x8_1 < (l0.length : Int)) = true := decide_eq_true c2
    clear c2
    by_cases c3 : 0 ≤ x8_1
    ·rw [if_pos c3] at H
     have c3b0 : decide (0 ≤ x8_1) = true := decide_eq_true c3
     clear c3
     by_cases c4 : x8_1 < (l0.length : Int)
     ·rw [if_pos c4] at H
      have c4b0 : decide (x8_1 < (l0.length : Int)) = true := decide_eq_true c4
      clear c4
      by_cases c5 : (rd l0 x8_1) = 0
      ·rw [if_pos c5] at H
       have c5b0 : ((rd l0 x8_1) == 0) = true := beq_iff_eq.mpr c5
       have c5b1 : ((rd l0 x8_1) != 0) = false := bne_eq_false_iff_eq.mpr c5
       clear c5
       have H' := aM H
       clear H
       have p158 : 0 ≤ (x8_1 : Int) := oT
       have q158 : x8_1 < (l0.length : Int) := oT
       obtain ⟨ad158, e158, hx158_0⟩ := Kd.at_int HR0.out x8_1 p158 q158
       cases e158
       replace p158 := eq_true p158
       replace q158 := eq_true q158
       go_wp2
       go_roundg k1
       case measure => have := HK1.out; omega
       case rel => exact ⟨(wrap64 (x8_1 + 1)), (by first | rfl | (simp; done) | (simp [*]; done)), H', ⟨by have := HK1.out; omega⟩, by repeat (first | exact Drawn0.refl _ | apply Drawn0.step)⟩
      ·rw [if_neg c5] at H
       have c5b0 : ((rd l0 x8_1) == 0) = false := beq_eq_false_iff_ne.mpr c5
       have c5b1 : ((rd l0 x8_1) != 0) = true := bne_iff_ne.mpr c5
       obtain rfl := Option.some.inj H
       have p158 : 0 ≤ (x8_1 : Int) := oT
       have q158 : x8_1 < (l0.length : Int) := oT
       obtain ⟨ad158, e158, hx158_0⟩ := Kd.at_int HR0.out x8_1 p158 q158
       cases e158
       replace p158 := eq_true p158
       replace q158 := eq_true q158
       go_wp2
       go_ret
       exact ⟨by first | rfl | (simp; done) | (simp [*]; done), by repeat (first | exact Drawn0.refl _ | apply Drawn0.step)⟩
     ·rw [if_neg c4] at H
      exact absurd H (by simp)
    ·rw [if_neg c3] at H
     exact absurd H (by simp)
   ·rw [if_neg c2] at H
    have c2b0 : decide (x8_1 < (l0.length : Int)) = false := decide_eq_false c2
    clear c2
    obtain rfl := Option.some.inj H
    go_wp2
    go_ret
    exact ⟨by first | rfl | (simp; done) | (simp [*]; done), by repeat (first | exact Drawn0.refl _ | apply Drawn0.step)⟩
def cmp_isNaN_int.f (a0 : Int) : Option (Bool) := some (a0 != a0)
set_option maxHeartbeats 8000000 in
set_option maxRecDepth 100000 in
theorem cmp_isNaN_int.calls (a0 : Int) (r : Bool) (w : World) (h : cmp_isNaN_int.f a0 = some r) :
  Calls Try.prog 87 #[.int .i64 a0] w fun e w' => e = .returned (.bool r) ∧ Drawn0 w w' := by
 have H : (some (a0 != a0)) = some r := h
 clear h
 obtain rfl := Option.some.inj H
 go_enter Try.func87, Try.ntmps87
 go_wp2
 go_ret
 exact ⟨by first | rfl | (simp; done) | (simp [*]; done), by repeat (first | exact Drawn0.refl _ | apply Drawn0.step)⟩
def cmp_Compare_int.f (a0 : Int) (a1 : Int) : Option (Int) := (cmp_isNaN_int.f a0).bind fun t159 => ((cmp_isNaN_int.f a1).bind fun t160 => (if t159 = true then (if t160 = true then (some 0) else (some (-1))) else (if t160 = true then (some 1) else (if a0 < a1 then (some (-1)) else (if a0 > a1 then (some 1) else (some 0))))))
set_option maxHeartbeats 8000000 in
set_option maxRecDepth 100000 in
theorem cmp_Compare_int.calls (a0 : Int) (a1 : Int) (r : Int) (w : World) (h : cmp_Compare_int.f a0 a1 = some r) :
  Calls Try.prog 57 #[.int .i64 a0, .int .i64 a1] w fun e w' => e = .returned (.int .i64 r) ∧ Drawn0 w w' := by
 have H : ((cmp_isNaN_int.f a0).bind fun t159 => ((cmp_isNaN_int.f a1).bind fun t160 => (if t159 = true then (if t160 = true then (some 0) else (some (-1))) else (if t160 = true then (some 1) else (if a0 < a1 then (some (-1)) else (if a0 > a1 then (some 1) else (some 0))))))) = some r := h
 clear h
 replace H := Option.bind_eq_some_iff.mp H
 obtain ⟨t159, A30, H⟩ := H
 try dsimp only at H
 have A3 := aM A30
 clear A30
 replace H := Option.bind_eq_some_iff.mp H
 obtain ⟨t160, A40, H⟩ := H
 try dsimp only at H
 have A4 := aM A40
 clear A40
 by_cases c5 : t159 = true
 ·subst c5
  have H1 : (if t160 = true then (some 0) else (some (-1))) = some r := by rw [if_pos rfl] at H; exact H
  clear H
  have H := H1
  clear H1
  by_cases c6 : t160 = true
  ·subst c6
   have H1 : (some 0) = some r := by rw [if_pos rfl] at H; exact H
   clear H
   have H := H1
   clear H1
   obtain rfl := Option.some.inj H
   go_enter Try.func57, Try.ntmps57
   go_wp2_with (first | ((with_reducible refine gate_callee (f := 87) rfl ?_); refine gL (some 8) Try.func87 #[.int .i64 a0] ?_; (with_reducible refine (cmp_isNaN_int.calls a0 true _ A3.out).mono ?_); rintro e w' ⟨rfl, ⟨nd, rfl⟩⟩; refine ⟨_, rfl, ?_⟩) | ((with_reducible refine gate_callee (f := 87) rfl ?_); refine gL (some 10) Try.func87 #[.int .i64 a1] ?_; (with_reducible refine (cmp_isNaN_int.calls a1 true _ A4.out).mono ?_); rintro e w' ⟨rfl, ⟨nd, rfl⟩⟩; refine ⟨_, rfl, ?_⟩))
   go_ret
   exact ⟨by first | rfl | (simp; done) | (simp [*]; done), by repeat (first | exact Drawn0.refl _ | apply Drawn0.step)⟩
  ·replace c6 := Bool.eq_false_iff.mpr c6
   subst c6
   have H1 : (some (-1)) = some r := by rw [if_neg (show ¬ (false = true) by decide)] at H; exact H
   clear H
   have H := H1
   clear H1
   obtain rfl := Option.some.inj H
   go_enter Try.func57, Try.ntmps57
   go_wp2_with (first | ((with_reducible refine gate_callee (f := 87) rfl ?_); refine gL (some 8) Try.func87 #[.int .i64 a0] ?_; (with_reducible refine (cmp_isNaN_int.calls a0 true _ A3.out).mono ?_); rintro e w' ⟨rfl, ⟨nd, rfl⟩⟩; refine ⟨_, rfl, ?_⟩) | ((with_reducible refine gate_callee (f := 87) rfl ?_); refine gL (some 10) Try.func87 #[.int .i64 a1] ?_; (with_reducible refine (cmp_isNaN_int.calls a1 false _ A4.out).mono ?_); rintro e w' ⟨rfl, ⟨nd, rfl⟩⟩; refine ⟨_, rfl, ?_⟩))
   go_ret
   exact ⟨by first | rfl | (simp; done) | (simp [*]; done), by repeat (first | exact Drawn0.refl _ | apply Drawn0.step)⟩
 ·replace c5 := Bool.eq_false_iff.mpr c5
  subst c5
  have H1 : (if t160 = true then (some 1) else (if a0 < a1 then (some (-1)) else (if a0 > a1 then (some 1) else (some 0)))) = some r := by rw [if_neg (show ¬ (false = true) by decide)] at H; exact H
  clear H
  have H := H1
  clear H1
  by_cases c7 : t160 = true
  ·subst c7
   have H1 : (some 1) = some r := by rw [if_pos rfl] at H; exact H
   clear H
   have H := H1
   clear H1
   obtain rfl := Option.some.inj H
   go_enter Try.func57, Try.ntmps57
   go_wp2_with (first | ((with_reducible refine gate_callee (f := 87) rfl ?_); refine gL (some 8) Try.func87 #[.int .i64 a0] ?_; (with_reducible refine (cmp_isNaN_int.calls a0 false _ A3.out).mono ?_); rintro e w' ⟨rfl, ⟨nd, rfl⟩⟩; refine ⟨_, rfl, ?_⟩) | ((with_reducible refine gate_callee (f := 87) rfl ?_); refine gL (some 10) Try.func87 #[.int .i64 a1] ?_; (with_reducible refine (cmp_isNaN_int.calls a1 true _ A4.out).mono ?_); rintro e w' ⟨rfl, ⟨nd, rfl⟩⟩; refine ⟨_, rfl, ?_⟩))
   go_ret
   exact ⟨by first | rfl | (simp; done) | (simp [*]; done), by repeat (first | exact Drawn0.refl _ | apply Drawn0.step)⟩
  ·replace c7 := Bool.eq_false_iff.mpr c7
   subst c7
   have H1 : (if a0 < a1 then (some (-1)) else (if a0 > a1 then (some 1) else (some 0))) = some r := by rw [if_neg (show ¬ (false = true) by decide)] at H; exact H
   clear H
   have H := H1
   clear H1
   by_cases c8 : a0 < a1
   ·rw [if_pos c8] at H
    have c8b0 : decide (a0 < a1) = true := decide_eq_true c8
    clear c8
    obtain rfl := Option.some.inj H
    go_enter Try.func57, Try.ntmps57
    go_wp2_with (first | ((with_reducible refine gate_callee (f := 87) rfl ?_); refine gL (some 8) Try.func87 #[.int .i64 a0] ?_; (with_reducible refine (cmp_isNaN_int.calls a0 false _ A3.out).mono ?_); rintro e w' ⟨rfl, ⟨nd, rfl⟩⟩; refine ⟨_, rfl, ?_⟩) | ((with_reducible refine gate_callee (f := 87) rfl ?_); refine gL (some 10) Try.func87 #[.int .i64 a1] ?_; (with_reducible refine (cmp_isNaN_int.calls a1 false _ A4.out).mono ?_); rintro e w' ⟨rfl, ⟨nd, rfl⟩⟩; refine ⟨_, rfl, ?_⟩))
    go_ret
    exact ⟨by first | rfl | (simp; done) | (simp [*]; done), by repeat (first | exact Drawn0.refl _ | apply Drawn0.step)⟩
   ·rw [if_neg c8] at H
    have c8b0 : decide (a0 < a1) = false := decide_eq_false c8
    clear c8
    by_cases c9 : a0 > a1
    ·rw [if_pos c9] at H
     have c9b0 : decide (a1 < a0) = true := decide_eq_true c9
     clear c9
     obtain rfl := Option.some.inj H
     go_enter Try.func57, Try.ntmps57
     go_wp2_with (first | ((with_reducible refine gate_callee (f := 87) rfl ?_); refine gL (some 8) Try.func87 #[.int .i64 a0] ?_; (with_reducible refine (cmp_isNaN_int.calls a0 false _ A3.out).mono ?_); rintro e w' ⟨rfl, ⟨nd, rfl⟩⟩; refine ⟨_, rfl, ?_⟩) | ((with_reducible refine gate_callee (f := 87) rfl ?_); refine gL (some 10) Try.func87 #[.int .i64 a1] ?_; (with_reducible refine (cmp_isNaN_int.calls a1 false _ A4.out).mono ?_); rintro e w' ⟨rfl, ⟨nd, rfl⟩⟩; refine ⟨_, rfl, ?_⟩))
     go_ret
     exact ⟨by first | rfl | (simp; done) | (simp [*]; done), by repeat (first | exact Drawn0.refl _ | apply Drawn0.step)⟩
    ·rw [if_neg c9] at H
     have c9b0 : decide (a1 < a0) = false := decide_eq_false c9
     clear c9
     obtain rfl := Option.some.inj H
     go_enter Try.func57, Try.ntmps57
     go_wp2_with (first | ((with_reducible refine gate_callee (f := 87) rfl ?_); refine gL (some 8) Try.func87 #[.int .i64 a0] ?_; (with_reducible refine (cmp_isNaN_int.calls a0 false _ A3.out).mono ?_); rintro e w' ⟨rfl, ⟨nd, rfl⟩⟩; refine ⟨_, rfl, ?_⟩) | ((with_reducible refine gate_callee (f := 87) rfl ?_); refine gL (some 10) Try.func87 #[.int .i64 a1] ?_; (with_reducible refine (cmp_isNaN_int.calls a1 false _ A4.out).mono ?_); rintro e w' ⟨rfl, ⟨nd, rfl⟩⟩; refine ⟨_, rfl, ?_⟩))
     go_ret
     exact ⟨by first | rfl | (simp; done) | (simp [*]; done), by repeat (first | exact Drawn0.refl _ | apply Drawn0.step)⟩
def data_Users_2.f (k : Nat) (a0_0 : Int) (a0_1 : Int) (a1_0 : Int) (a1_1 : Int) : Option (Int) := (cmp_Compare_int.f a0_0 a1_0).bind fun t163 => ((cmp_Compare_int.f a0_1 a1_1).bind fun t164 => ((cmp_Or_int.f k (([t163, t164] : List Int))).bind fun t168 => (some t168)))
theorem data_Users_2.mono : ∀ a0 a1 a2 a3 k, LeO (data_Users_2.f k a0 a1 a2 a3) (data_Users_2.f (k + 1) a0 a1 a2 a3) := by
 intro a0 a1 a2 a3 k
 unfold data_Users_2.f
 repeat' first
   | (with_reducible exact cmp_Or_int.mono _ _)
   | (with_reducible exact LeO.refl _)
   | (with_reducible exact LeO.none _)
   | (with_reducible refine LeO.ite ?_ ?_)
   | (with_reducible refine LeO.bind ?_ (fun _ => ?_))
   | exact cmp_Or_int.mono _ _
   | exact LeO.none _
   | refine LeO.ite ?_ ?_
   | refine LeO.bind ?_ (fun _ => ?_)
def data_Users_2.T1 : Bool × List (List Nat × List Nat) := (true, [([], []), ([0], [0]), ([], []), ([2], [2]), ([1, 3], [1, 3]), ([], []), ([5], [5]), ([], []), ([7], [7]), ([6, 8, 4], [6, 8]), ([4, 9], [4, 9]), ([10, 9], [10]), ([11, 11, 0, 1, 2, 3, 4, 5, 6, 7, 8, 9, 10, 11], [11])])
def data_Users_2.B1 : List Nat := [0, 1, 0, 4, 15, 0, 32, 0, 128, 511, 1023, 2047, 4095]
theorem data_Users_2.tab1 : rtab .any (opsOf Try.f55 1) = data_Users_2.T1 := by kernel_rfl
theorem data_Users_2.bits1 : waitsOk data_Users_2.T1.2 data_Users_2.B1 = true := by kernel_rfl
set_option maxHeartbeats 8000000 in
set_option maxRecDepth 100000 in
theorem data_Users_2.calls (k : Nat) (a0_0 : Int) (a0_1 : Int) (a1_0 : Int) (a1_1 : Int) (r : Int) (w : World) (h : data_Users_2.f k a0_0 a0_1 a1_0 a1_1 = some r) :
  Calls Try.prog 55 #[.agg #[.int .i64 a0_0, .int .i64 a0_1], .agg #[.int .i64 a1_0, .int .i64 a1_1]] w fun e w' => e = .returned (.int .i64 r) ∧ Below w.heap.size w w' := by
 have hu34 := Try.underlying34
 have HB := aM (Below.refl w.heap.size w)
 have H : ((cmp_Compare_int.f a0_0 a1_0).bind fun t163 => ((cmp_Compare_int.f a0_1 a1_1).bind fun t164 => ((cmp_Or_int.f k (([t163, t164] : List Int))).bind fun t168 => (some t168)))) = some r := h
 clear h
 replace H := Option.bind_eq_some_iff.mp H
 obtain ⟨t163, A30, H⟩ := H
 try dsimp only at H
 have A3 := aM A30
 clear A30
 replace H := Option.bind_eq_some_iff.mp H
 obtain ⟨t164, A40, H⟩ := H
 try dsimp only at H
 have A4 := aM A40
 clear A40
 obtain ⟨y165, hy165⟩ : ∃ y_ : List Int, y_ = (([t163, t164] : List Int)) := ⟨_, rfl⟩
 replace H : ((cmp_Or_int.f k y165).bind fun t168 => (some t168)) = some r := by first | (rw [hy165]; with_reducible exact H) | (have H2_ := (Option.bind_some _ _).symm.trans H; rw [hy165]; with_reducible exact H2_) | (have H2_ := (Option.bind_some _ _).symm.trans H; with_reducible exact H2_) | with_reducible exact H | (rw [hy165]; exact H) | exact H
 have Ny165 := aM hy165
 clear hy165
 replace H := Option.bind_eq_some_iff.mp H
 obtain ⟨t168, A50, H⟩ := H
 try dsimp only at H
 have A5 := aM A50
 clear A50
 obtain rfl := Option.some.inj H
 go_enter Try.func55, Try.ntmps55
 try go_wp2_with (first | ((with_reducible refine gate_dst (N := 2) rfl ?_); refine bx (N := 2) (cs := #[.int .i64 a0_0, .int .i64 a0_1]) (t := 34) ?_; intro gb161 hg w6 hbox hb; have n0_ := aM (bS (bl) hb); have n1_ := aM (hbox); have n3_ := aM (gw (w := w) hg); (try clear HB); have HB := n0_; have BK161 := n1_; have GE161 := n3_; clear n0_ n1_ n3_ hb hbox hg) | ((with_reducible refine gate_dst (N := 3) rfl ?_); refine bx (N := 3) (cs := #[.int .i64 a1_0, .int .i64 a1_1]) (t := 34) ?_; intro gb162 hg w7 hbox hb; have n0_ := aM (kB (kl BK161) hb); have n1_ := aM (bS (bl) hb); have n2_ := aM (hbox); have n4_ := aM (gw (w := w) hg); (try clear BK161); (try clear HB); have BK161 := n0_; have HB := n1_; have BK162 := n2_; have GE162 := n4_; clear n0_ n1_ n2_ n4_ hb hbox hg))
 replace BK161 := aM (kD BK161.out)
 replace BK162 := aM (kD BK162.out)
 replace HB := aM (bD HB.out)
 refine start_ (n := 13) (S := fun w' => w'.cell? ⟨gb161, 0, none⟩ = some (.int .i64 a0_0) ∧ w'.cell? ⟨gb161, 1, none⟩ = some (.int .i64 a0_1) ∧ w'.cell? ⟨gb162, 0, none⟩ = some (.int .i64 a1_0) ∧ w'.cell? ⟨gb162, 1, none⟩ = some (.int .i64 a1_1)) (ds := []) #[false, false, false, false, false, false, false, false, false, false, false, false, false] (by kernel_rfl) rfl rfl ⟨(kC BK161.out 0).trans rfl, (kC BK161.out 1).trans rfl, (kC BK162.out 0).trans rfl, (kC BK162.out 1).trans rfl⟩ (fun hHeld => ?_); refine with_tabW data_Users_2.tab1 data_Users_2.bits1 (fun HT_ HW_ => ?_)
 generalize w7.drew = w8 at BK161 BK162 HB hHeld ⊢
 refine pure_ (i := 0) (N := some 5) (v := ?_) (a' := ?_) (ba 13 1) rfl rfl (any_of HT_.out (by kernel_rfl)) (fun _ _ _ h => h) (Or.inl ⟨by rfl, ?_⟩) ?_ ?_
 rotate_left
 ·intro w'
  go_simp
  with_reducible rfl
 rotate_left
 ·simp only [Act.put, sA, sB, sC, i64_w, i32_w]
  rfl
 refine pure_ (i := 2) (N := some 7) (v := ?_) (a' := ?_) (ba 13 5) rfl rfl (any_of HT_.out (by kernel_rfl)) (fun _ _ _ h => h) (Or.inl ⟨by rfl, ?_⟩) ?_ ?_
 rotate_left
 ·intro w'
  go_simp
  with_reducible rfl
 rotate_left
 ·simp only [Act.put, sA, sB, sC, i64_w, i32_w]
  rfl
 refine pure_ (i := 5) (N := some 10) (v := ?_) (a' := ?_) (ba 13 37) rfl rfl (any_of HT_.out (by kernel_rfl)) (fun _ _ _ h => h) (Or.inl ⟨by rfl, ?_⟩) ?_ ?_
 rotate_left
 ·intro w'
  go_simp
  with_reducible rfl
 rotate_left
 ·simp only [Act.put, sA, sB, sC, i64_w, i32_w]
  rfl
 refine pure_ (i := 7) (N := some 12) (v := ?_) (a' := ?_) (ba 13 165) rfl rfl (any_of HT_.out (by kernel_rfl)) (fun _ _ _ h => h) (Or.inl ⟨by rfl, ?_⟩) ?_ ?_
 rotate_left
 ·intro w'
  go_simp
  with_reducible rfl
 rotate_left
 ·simp only [Act.put, sA, sB, sC, i64_w, i32_w]
  rfl
 refine take_ (i := 1) (N := some 6) (v := ?_) (a' := ?_) (ba 13 167) rfl rfl (take_ofW HT_.out HW_.out (by kernel_rfl)) (fun _ _ _ h => h) (Or.inl ⟨by rfl, ?_⟩) hHeld ?_ ?_
 rotate_left
 ·rintro w' ⟨s0, s1, s2, s3⟩
  go_simp
  with_reducible rfl
 rotate_left
 ·simp only [Act.put, sA, sB, sC, i64_w, i32_w]
  rfl
 refine take_ (i := 3) (N := some 8) (v := ?_) (a' := ?_) (ba 13 175) rfl rfl (take_ofW HT_.out HW_.out (by kernel_rfl)) (fun _ _ _ h => h) (Or.inl ⟨by rfl, ?_⟩) hHeld ?_ ?_
 rotate_left
 ·rintro w' ⟨s0, s1, s2, s3⟩
  go_simp
  with_reducible rfl
 rotate_left
 ·simp only [Act.put, sA, sB, sC, i64_w, i32_w]
  rfl
 refine take_ (i := 6) (N := some 11) (v := ?_) (a' := ?_) (ba 13 239) rfl rfl (take_ofW HT_.out HW_.out (by kernel_rfl)) (fun _ _ _ h => h) (Or.inl ⟨by rfl, ?_⟩) hHeld ?_ ?_
 rotate_left
 ·rintro w' ⟨s0, s1, s2, s3⟩
  go_simp
  with_reducible rfl
 rotate_left
 ·simp only [Act.put, sA, sB, sC, i64_w, i32_w]
  rfl
 refine take_ (i := 8) (N := some 13) (v := ?_) (a' := ?_) (ba 13 495) rfl rfl (take_ofW HT_.out HW_.out (by kernel_rfl)) (fun _ _ _ h => h) (Or.inl ⟨by rfl, ?_⟩) hHeld ?_ ?_
 rotate_left
 ·rintro w' ⟨s0, s1, s2, s3⟩
  go_simp
  with_reducible rfl
 rotate_left
 ·simp only [Act.put, sA, sB, sC, i64_w, i32_w]
  rfl
 refine one_ (i := 4) (N := some 9) (ba 13 511) rfl rfl (one_of HT_.out (by kernel_rfl)) (by decide) (fun K hK => ?_)
 refine goes_ Try.func57 (by kernel_rfl) rfl #[.int .i64 a0_0, .int .i64 a1_0] (by rfl) rfl rfl (by (try simp only [List.map_toArray, List.map_cons, List.map_nil]); first | done | rfl | (simp only [List.length_drop, List.length_take]; rfl)) ?_
 with_reducible refine (cmp_Compare_int.calls a0_0 a1_0 t163 _ A3.out).mono ?_
 rintro e w' ⟨rfl, ⟨nd, rfl⟩⟩
 refine ⟨_, rfl, ?_⟩
 refine hK.out _ _ ⟨(kC BK161.out 0).trans rfl, (kC BK161.out 1).trans rfl, (kC BK162.out 0).trans rfl, (kC BK162.out 1).trans rfl⟩ (fun hHeld => ?_)
 clear hK K
 refine norm_ (a' := ?_) ?_ ?_
 rotate_left
 ·show Act.put _ (some 9) _ = _
  simp only [Act.put, sA, sB, sC, i64_w, i32_w]
  rfl
 refine one_ (i := 9) (N := some 14) (ba 13 1023) rfl rfl (one_of HT_.out (by kernel_rfl)) (by decide) (fun K hK => ?_)
 refine goes_ Try.func57 (by kernel_rfl) rfl #[.int .i64 a0_1, .int .i64 a1_1] (by rfl) rfl rfl (by (try simp only [List.map_toArray, List.map_cons, List.map_nil]); first | done | rfl | (simp only [List.length_drop, List.length_take]; rfl)) ?_
 with_reducible refine (cmp_Compare_int.calls a0_1 a1_1 t164 _ A4.out).mono ?_
 rintro e w' ⟨rfl, ⟨nd, rfl⟩⟩
 refine ⟨_, rfl, ?_⟩
 refine hK.out _ _ ⟨(kC BK161.out 0).trans rfl, (kC BK161.out 1).trans rfl, (kC BK162.out 0).trans rfl, (kC BK162.out 1).trans rfl⟩ (fun hHeld => ?_)
 clear hK K
 refine norm_ (a' := ?_) ?_ ?_
 rotate_left
 ·show Act.put _ (some 14) _ = _
  simp only [Act.put, sA, sB, sC, i64_w, i32_w]
  rfl
 refine one_ (i := 10) (N := some 15) (ba 13 2047) rfl rfl (one_of HT_.out (by kernel_rfl)) (by decide) (fun K hK => ?_)
 refine Kd.R_lit_step (Kd.int .i64) _ 3 ?hg (N := 15) ?hd (xs := ([t163, t164] : List Int)) (inner := [.int .i64 t163, .int .i64 t164]) (ok := fun _ => True) (okp := fun _ => True) ?hr ?hp (fun _ hk => hk) trivial (Below.refl _ _) (Nat.le_refl _) (by simp) ?_; (case hd => rfl); (case hg => rfl); (case hr => first | (go_simp; done) | (go_simp; rfl)); (case hp => exact (Reps.one (show Kd.M (Kd.int .i64) _ _ _ t163 [.int .i64 t163] from rfl) (Reps.one (show Kd.M (Kd.int .i64) _ _ _ t164 [.int .i64 t164] from rfl) (Reps.none _ _))))
 intro v166 w9 ho10 hb hg_ hnew_
 clear hg_ hnew_
 (first | rw [← Ny165.out] at ho10 | (simp only [Int.reduceToNat] at ho10; rw [← Ny165.out] at ho10))
 have HO167 := aM (Kd.R_lower ho10 (below_size (bl)))
 replace BK161 := aM (kB (kl BK161) hb)
 replace BK162 := aM (kB (kl BK162) hb)
 replace HB := aM (bS (bl) hb)
 clear hb ho10
 obtain ⟨Ao11, co11, eo11⟩ := Kd.R_slice HO167.out
 (first | subst eo11 | (injection eo11 with f1_ f2_ f3_; have f4_ := f1_.symm; have f5_ := f3_.symm; clear f1_ f2_ f3_; subst f4_; subst f5_))
 refine hK.out _ _ ⟨(kC BK161.out 0).trans rfl, (kC BK161.out 1).trans rfl, (kC BK162.out 0).trans rfl, (kC BK162.out 1).trans rfl⟩ (fun hHeld => ?_)
 clear hK K
 refine norm_ (a' := ?_) ?_ ?_
 rotate_left
 ·show Act.put _ (some 15) _ = _
  simp only [Act.put, sA, sB, sC, i64_w, i32_w]
  rfl
 refine one_ (i := 11) (N := some 16) (ba 13 4095) rfl rfl (one_of HT_.out (by kernel_rfl)) (by decide) (fun K hK => ?_)
 refine goes_ Try.func56 (by kernel_rfl) rfl #[.slice Ao11 y165.length co11] (by rfl) rfl rfl (by (try simp only [List.map_toArray, List.map_cons, List.map_nil]); first | done | rfl | (simp only [List.length_drop, List.length_take]; rfl)) ?_
 with_reducible refine (cmp_Or_int.calls k _ _ y165 t168 _ ?side1 ?side2 A5.out).mono ?_
 (case side1 => repeat (first | exact (rR HO167.out).2.2 | (with_reducible refine cA ?_ _) | (with_reducible refine cN ?_ _) | (with_reducible refine cD ?_)))
 (case side2 => exact (rR HO167.out).2.1)
 rintro e w' ⟨rfl, ⟨nd, rfl⟩⟩
 refine ⟨_, rfl, ?_⟩
 refine hK.out _ _ ⟨(kC BK161.out 0).trans rfl, (kC BK161.out 1).trans rfl, (kC BK162.out 0).trans rfl, (kC BK162.out 1).trans rfl⟩ (fun hHeld => ?_)
 clear hK K
 refine norm_ (a' := ?_) ?_ ?_
 rotate_left
 ·show Act.put _ (some 16) _ = _
  simp only [Act.put, sA, sB, sC, i64_w, i32_w]
  rfl
 refine pure_ (i := 12) (N := some 4) (v := ?_) (a' := ?_) (ba 13 8191) rfl rfl (any_of HT_.out (by kernel_rfl)) (fun _ _ _ h => h) (Or.inl ⟨by rfl, ?_⟩) ?_ ?_
 rotate_left
 ·intro w'
  go_simp
  with_reducible rfl
 rotate_left
 ·simp only [Act.put, sA, sB, sC, i64_w, i32_w]
  rfl
 refine done_ (done_of HT_.out (by kernel_rfl)) ?_
 try go_wp2
 go_ret
 exact ⟨by first | rfl | (simp [errW_none, errW_some] <;> rfl) | (simp [*, errW_none, errW_some] <;> rfl), bl⟩
-- NOT PRINTED: function 54 (api_Ref_54)
theorem eqG34 (d : Nat) (w : World) (x0 y0 : Int) (x1 y1 : Int) :
  (Op.equalIn (d + 2) 34 (.agg #[.int .i64 x0, .int .i64 x1]) (.agg #[.int .i64 y0, .int .i64 y1])).run Try.prog w = .ok (x0 == y0 && (x1 == y1)) w := by
 refine eqA_of Try.underlying34 (by kernel_rfl) ?_
 refine eqf_cons (by rfl) (by go_simp; rfl) (by go_simp; rfl) (by go_simp) ?_
 exact eqf_last (by rfl) (by go_simp; rfl) (by go_simp; rfl) (by go_simp)
def ddGo34 (q : S34 → S34 → Bool) : S34 → List S34 → List S34
 | _, [] => []
 | p, y :: l => if q y p = true then ddGo34 q y l else y :: ddGo34 q y l
def dd34 (q : S34 → S34 → Bool) : List S34 → List S34
 | [] => []
 | x :: l => x :: ddGo34 q x l
theorem ddGo_snoc34 (q : S34 → S34 → Bool) (z : S34) : ∀ (l : List S34) (p y : S34), ddGo34 q p (l ++ [y]) = ddGo34 q p l ++ (if q y ((p :: l).getLast (by simp)) = true then [] else [y])
 | [], p, y => by
  simp only [List.nil_append, ddGo34, List.getLast_singleton]
  first | rfl | (split <;> rfl)
 | x :: l, p, y => by
  have ih := ddGo_snoc34 q z l x y
  simp only [List.cons_append, ddGo34]
  rw [ih]
  have e : (p :: x :: l).getLast (by simp) = (x :: l).getLast (by simp) := rfl
  rw [e]
  by_cases h : q x p = true
  ·rw [if_pos h, if_pos h]
  ·rw [if_neg h, if_neg h, List.cons_append]
theorem dd_snoc34 (q : S34 → S34 → Bool) (l : List S34) (j : Nat) (h0 : 0 < j) (hj : j < l.length) : dd34 q (l.take (j + 1)) = dd34 q (l.take j) ++ (if q l[j] l[j - 1] = true then [] else [l[j]]) := by
 rw [List.take_succ_eq_append_getElem hj]
 cases l with
 | nil => simp at hj
 | cons x l =>
  obtain ⟨i, rfl⟩ : ∃ i, j = i + 1 := ⟨j - 1, by omega⟩
  simp only [List.take_succ_cons, List.cons_append, dd34]
  rw [ddGo_snoc34 q x]
  have e : (x :: l.take i).getLast (by simp) = (x :: l)[i] := by
   rw [List.getLast_eq_getElem]
   simp only [List.length_cons, List.length_take]
   have hm : min i l.length = i := by simp at hj; omega
   simp only [hm, Nat.add_sub_cancel]
   cases i with
   | zero => rfl
   | succ i => simp
  rw [e]
  rfl
structure Cmpd34 (q : S34 → S34 → Bool) (l : List S34) (jj kk : Nat) (cur : List S34) : Prop where
 len : cur.length = l.length
 le : jj ≤ l.length
 ile : kk < jj
 kept : cur.take kk = dd34 q (l.take jj)
 rest : cur.drop (jj - 1) = l.drop (jj - 1)
theorem Cmpd34.get {q : S34 → S34 → Bool} {l cur : List S34} {jj kk : Nat} (h : Cmpd34 q l jj kk cur) (i : Nat) (hi : jj - 1 ≤ i) (hl : i < l.length) (z : S34) : cur.getD i z = l[i] := by
 have h1 := congrArg (fun t => t[i - (jj - 1)]?) h.rest
 simp only [List.getElem?_drop] at h1
 rw [show jj - 1 + (i - (jj - 1)) = i by omega] at h1
 rw [List.getD_eq_getElem?_getD, h1, List.getElem?_eq_getElem hl]
 rfl
theorem Cmpd34.step_yes {q : S34 → S34 → Bool} {l cur : List S34} {jj kk : Nat} (h : Cmpd34 q l jj kk cur) (hj : jj < l.length) (hp : q l[jj] l[jj - 1] = true) : Cmpd34 q l (jj + 1) kk cur where
 len := h.len
 le := hj
 ile := by have := h.ile; omega
 kept := by rw [dd_snoc34 q l jj (by have := h.ile; omega) hj, if_pos hp, List.append_nil]; exact h.kept
 rest := by
  have h0 := h.ile
  have := congrArg (List.drop 1) h.rest
  rw [List.drop_drop, List.drop_drop, show jj - 1 + 1 = jj + 1 - 1 by omega] at this
  exact this
theorem Cmpd34.step_no {q : S34 → S34 → Bool} {l cur : List S34} {jj kk : Nat} (h : Cmpd34 q l jj kk cur) (hj : jj < l.length) (hp : q l[jj] l[jj - 1] = false) : Cmpd34 q l (jj + 1) (kk + 1) (cur.set kk l[jj]) where
 len := by rw [List.length_set]; exact h.len
 le := hj
 ile := by have := h.ile; omega
 kept := by
  have h0 := h.ile
  have hi : kk < cur.length := by rw [h.len]; omega
  rw [dd_snoc34 q l jj (by omega) hj, if_neg (by rw [hp]; exact Bool.false_ne_true), ← h.kept, List.take_succ_eq_append_getElem (by rw [List.length_set]; exact hi), List.getElem_set_self, List.take_set_of_le (Nat.le_refl _)]
 rest := by
  have h0 := h.ile
  rw [List.drop_set_of_lt (by omega)]
  have := congrArg (List.drop 1) h.rest
  rw [List.drop_drop, List.drop_drop, show jj - 1 + 1 = jj + 1 - 1 by omega] at this
  exact this
theorem Cmpd34.done {q : S34 → S34 → Bool} {l cur : List S34} {kk : Nat} (h : Cmpd34 q l l.length kk cur) : cur.take kk = dd34 q l ∧ kk = (dd34 q l).length := by
 have h1 := h.kept
 rw [List.take_length] at h1
 refine ⟨h1, ?_⟩
 rw [← h1, List.length_take, h.len]
 have := h.ile
 omega
theorem dd_pre34 (q : S34 → S34 → Bool) (l : List S34) : ∀ j, j ≤ l.length → (∀ i, 0 < i → (hi : i < j) → (hl : i < l.length) → q l[i] l[i - 1] = false) → dd34 q (l.take j) = l.take j
 | 0, _, _ => rfl
 | 1, hj, _ => by
  cases l with
  | nil => rfl
  | cons x l => rfl
 | j + 2, hj, h => by
  rw [dd_snoc34 q l (j + 1) (by omega) (by omega), if_neg (by rw [h (j + 1) (by omega) (by omega) (by omega)]; exact Bool.false_ne_true), dd_pre34 q l (j + 1) (by omega) (fun i h0 h1 h2 => h i h0 (by omega) h2), List.take_succ_eq_append_getElem (show j + 1 < l.length by omega)]
theorem Cmpd34.start {q : S34 → S34 → Bool} {l : List S34} {k : Nat} (h0 : 0 < k) (hk : k < l.length) (hp : q l[k] l[k - 1] = true) (hb : ∀ i, 0 < i → (hi : i < k) → (hl : i < l.length) → q l[i] l[i - 1] = false) : Cmpd34 q l (k + 1) k l where
 len := rfl
 le := hk
 ile := by omega
 kept := by rw [dd_snoc34 q l k h0 hk, if_pos hp, List.append_nil, dd_pre34 q l k (by omega) hb]
 rest := rfl
attribute [local go_sem high] eqG34
theorem zv34 (w : World) : (zeroValue 34).run Try.prog w = .ok ((.agg #[(.int .i64 0), (.int .i64 0)])) w := by
 have h := info34
 cases hq : Try.prog.info? 34 with
 | none => rw [hq] at h; cases h
 | some i =>
  rw [hq] at h
  simp only [Option.map_some, Option.some.injEq, Prod.mk.injEq] at h
  simp [zeroValue, typeInfo, hq, h.1]
def eqs34 (x y : S34) : Bool := (x.f0 == y.f0 && (x.f1 == y.f1))
set_option maxHeartbeats 4000000 in
set_option maxRecDepth 100000 in
theorem cp58 (base : Nat) (A : Option Addr) (c : Nat) (l : List S34) (w0 w : World) (P0_ : Nat → Prop)
  (HO : Kd.R k34 34 w base P0_ (.slice A l.length c) l) (hb0 : Below base w0 w) (hbase : base ≤ w.heap.size) :
  Calls Try.prog 58 #[.slice A l.length c] w fun e w' => ∃ v, e = .returned v ∧ Kd.R k34 34 w' base P0_ v (dd34 eqs34 l) ∧ Below base w0 w' ∧ w.grownBy w' (Value.slice A l.length c).ownBlock := by
 have hreads := rR HO
 have hbig : l.length ≤ 9223372036854775807 := hreads.2.2.2.1
 have hO := aM HO
 have HB0 := aM hb0
 clear hreads HO hb0
 by_cases hs : l.length < 2
 ·have hdd : dd34 eqs34 l = l := by
   have := dd_pre34 eqs34 l l.length (Nat.le_refl _) (fun i h0 h1 h2 => by omega)
   rwa [List.take_length] at this
  rw [hdd]
  clear hdd
  have hsI : decide ((l.length : Int) < 2) = true := decide_eq_true (by omega)
  have hsI2 : (l.length : Int) < 2 := by omega
  go_enter Try.func58, Try.ntmps58
  go_wp2
  go_ret
  exact ⟨_, rfl, hO.out, HB0.out, World.grownBy.refl w _⟩
 ·have hsI : ¬ ((l.length : Int) < 2) := by omega
  obtain ⟨ga, rfl⟩ := R_head hO.out (by omega)
  go_enter Try.func58, Try.ntmps58
  go_wp2
  have mixed : Try.prog.follows Departure.mixedOrders = true := by kernel_rfl
  go_loopg [3] l.length (fun gg v3 wr => ∃ m : Nat, m + 1 ≤ l.length ∧ l.length - (m + 1) ≤ gg ∧ v3 = .int .i64 ((m : Int) + 1) ∧ Aside0 (Below w.heap.size w wr) ∧ Aside0 (∀ i, 0 < i → (hi : i < m + 1) → (hl : i < l.length) → eqs34 l[i] l[i - 1] = false))
  case atStart => exact ⟨0, by omega, by omega, by go_num, ⟨Below.refl _ _⟩, ⟨fun i h0 h1 h2 => by omega⟩⟩
  case round =>
   obtain ⟨m, hml, hgg, rfl, HB, HP⟩ := hrel
   by_cases hlt : m + 1 < l.length
   ·have hltI : (m : Int) + 1 < (l.length : Int) := by omega
    have HC := Kd.C_below (rR hO.out).2.2 HB.out
    obtain ⟨ad, e0, hx0, hx1⟩ := at_T34 HC (m : Int) (by omega) (by omega)
    obtain ⟨ad', e0', hy0, hy1⟩ := at_T34 HC ((m + 1 : Nat) : Int) (by omega) (by omega)
    cases e0; cases e0'
    have hy : rd_T34 l ((m + 1 : Nat) : Int) = l[m + 1] := by unfold rd_T34; rw [Int.toNat_natCast, List.getD_eq_getElem?_getD, List.getElem?_eq_getElem hlt]; rfl
    have hx : rd_T34 l (m : Int) = l[m] := by unfold rd_T34; rw [Int.toNat_natCast, List.getD_eq_getElem?_getD, List.getElem?_eq_getElem (show m < l.length by omega)]; rfl
    rw [hx, Int.toNat_natCast, Addr.add_lit, Nat.zero_add] at hx0 hx1
    rw [hy, Int.toNat_natCast, Addr.add_lit, Nat.zero_add] at hy0 hy1
    clear hx hy
    have hw1 : IntKind.i64.wrap ((m : Int) + 1 - 1) = (m : Int) := by rw [IntKind.wrap_i64]; omega
    have hw2 : (m : Int) + 1 - 1 = (m : Int) := by omega
    have ht1 : ((m : Int) + 1).toNat = m + 1 := by omega
    have hb1 : (0 : Int) ≤ (m : Int) + 1 := by omega
    have hb2 : (m : Int) < (l.length : Int) := by omega
    have hb3 : (0 : Int) ≤ (m : Int) := by omega
    have HPY := aM (fun h : eqs34 l[m + 1] l[m] = true => Cmpd34.start (q := eqs34) (k := m + 1) (by omega) hlt h HP.out)
    have HPN := aM (fun (h : eqs34 l[m + 1] l[m] = false) i (h0 : 0 < i) (hi : i < m + 1 + 1) (hl : i < l.length) => (show eqs34 l[i] l[i - 1] = false from by
     by_cases e : i = m + 1
     ·subst e; exact h
     ·exact HP.out i h0 (by omega) hl))
    clear HP HC
    generalize l[m + 1] = y at hy0 hy1 HPY HPN
    generalize l[m] = x at hx0 hx1 HPY HPN
    have hQ : ∀ b, eqs34 y x = b → eqs34 y x = b := fun _ h => h
    cases hq : eqs34 y x with
    | true =>
     have HS := aM (HPY.out hq)
     clear HPY HPN hQ
     unfold eqs34 at hq
     have hcap := R_cap hO.out
     have hcm : ¬ (c = m + 1) := by omega
     have hcm2 : m + 1 ≤ l.length := by omega
     have HO1 := aM (rB hO.out HB.out)
     have HB1 := aM (HB0.out.trans (HB.out.mono hbase))
     have HG1 := aM (grown_of_below HB.out (Value.slice (some ⟨ga, 0, none⟩) l.length c).ownBlock)
     clear HB hO HB0
     go_wp2
     go_region
     go_wp2
     clear hq hx0 hx1 hy0 hy1 hw1 hw2 ht1 hb1 hb2 hb3 hltI
     have HO1' := aM (show Kd.R k34 34 wr.drew base P0_ (.slice (some ⟨ga, 0, none⟩) l.length c) l from rB HO1.out (bD (Below.refl _ _)))
     have HB1' := aM (bD HB1.out)
     have HG1' := aM (HG1.out.trans (grown_of_below (bD (Below.refl wr.heap.size wr)) _))
     clear HO1 HB1 HG1
     go_loopg [3, 5] l.length (fun gg v3 v5 wr => ∃ (n kk : Nat) (cur : List S34), m + 1 + n + 1 ≤ l.length ∧ l.length - (m + 1 + n + 1) ≤ gg ∧ v3 = .int .i64 kk ∧ v5 = .int .i64 ((n : Int) + 1) ∧ Aside0 (Cmpd34 eqs34 l (m + 1 + n + 1) kk cur) ∧ Aside0 (Kd.R k34 34 wr base P0_ (.slice (some ⟨ga, 0, none⟩) l.length c) cur) ∧ Aside0 (Below base w0 wr) ∧ Aside0 (w.grownBy wr (Value.slice (some ⟨ga, 0, none⟩) l.length c).ownBlock))
     case atStart => exact ⟨0, m + 1, l, by omega, by omega, by go_num, by go_num, HS, HO1', HB1', HG1'⟩
     case round =>
      clear HO1' HB1' HG1' HS
      obtain ⟨n, kk, cur, hnl, hgg2, rfl, rfl, HD, HO, HB, HG⟩ := hrel
      have hkk := HD.out.ile
      have hlen := HD.out.len
      by_cases hlt2 : m + 1 + n + 1 < l.length
      ·have hltJ : (n : Int) + 1 < ((l.length - (m + 1) : Nat) : Int) := by omega
       have HC := (rR HO.out).2.2
       obtain ⟨ad, e0, hx0, hx1⟩ := at_T34 HC ((m + 1 + n : Nat) : Int) (by omega) (by omega)
       obtain ⟨ad', e0', hy0, hy1⟩ := at_T34 HC ((m + 1 + n + 1 : Nat) : Int) (by omega) (by omega)
       cases e0; cases e0'
       have hx : rd_T34 cur ((m + 1 + n : Nat) : Int) = l[m + 1 + n] := by unfold rd_T34; rw [Int.toNat_natCast]; exact HD.out.get (m + 1 + n) (by omega) (by omega) z34
       have hy : rd_T34 cur ((m + 1 + n + 1 : Nat) : Int) = l[m + 1 + n + 1] := by unfold rd_T34; rw [Int.toNat_natCast]; exact HD.out.get (m + 1 + n + 1) (by omega) (by omega) z34
       rw [hx, Int.toNat_natCast, Addr.add_lit, Nat.zero_add, Nat.add_mul (m + 1) n] at hx0 hx1
       rw [hy, Int.toNat_natCast, Addr.add_lit, Nat.zero_add] at hy0 hy1
       clear hx hy HC
       have hw1 : IntKind.i64.wrap ((n : Int) + 1 - 1) = (n : Int) := by rw [IntKind.wrap_i64]; omega
       have hw2 : (n : Int) + 1 - 1 = (n : Int) := by omega
       have ht1 : ((n : Int) + 1).toNat = n + 1 := by omega
       have hb1 : (0 : Int) ≤ (n : Int) + 1 := by omega
       have hb2 : (n : Int) < ((l.length - (m + 1) : Nat) : Int) := by omega
       have hb3 : (0 : Int) ≤ (n : Int) := by omega
       have hkI : (kk : Int) < (l.length : Int) := by omega
       have HDY := aM (fun h : eqs34 l[m + 1 + n + 1] l[m + 1 + n] = true => HD.out.step_yes hlt2 h)
       have HDN := aM (fun h : eqs34 l[m + 1 + n + 1] l[m + 1 + n] = false => HD.out.step_no hlt2 h)
       clear HD
       generalize l[m + 1 + n + 1] = y at hy0 hy1 HDY HDN
       generalize l[m + 1 + n] = x at hx0 hx1 HDY HDN
       rw [Nat.add_assoc (m + 1) n 1, Nat.add_mul (m + 1) (n + 1)] at hy0 hy1
       cases hq : eqs34 y x with
       | true =>
        have HS := aM (HDY.out hq)
        clear HDY HDN
        unfold eqs34 at hq
        go_wp2
        go_region
        go_wp2
        go_roundg (l.length - (m + 1 + n + 1 + 1))
        case measure => omega
        case rel => exact ⟨n + 1, kk, cur, by omega, by omega, by go_num, by go_num, HS, ⟨rB HO.out (bD (Below.refl _ _))⟩, ⟨bD HB.out⟩, ⟨HG.out.trans (grown_of_below (bD (Below.refl wr.heap.size wr)) _)⟩⟩
       | false =>
        have HS := aM (HDN.out hq)
        clear HDY HDN
        unfold eqs34 at hq
        have HO2 := aM (show Kd.R k34 34 wr.drew base P0_ (.slice (some ⟨ga, 0, none⟩) l.length c) cur from rB HO.out (bD (Below.refl _ _)))
        have HB2 := aM (bD HB.out)
        have HG2 := aM (HG.out.trans (grown_of_below (bD (Below.refl wr.heap.size wr)) (Value.slice (some ⟨ga, 0, none⟩) l.length c).ownBlock))
        clear HO HB HG
        go_wp2
        go_region
        clear hq hx0 hx1
        go_wp2_with ((with_reducible refine gate_ (.store 34 (.tmp 51) (.tmp 50)) rfl ?_); obtain ⟨ad2, c2, he2, hc2, _, hcc2⟩ := Kd.C_get (rR HO2.out).2.2 z34 (kk : Int) (by omega) (by omega); cases he2; refine Kd.R_store k34 (w0 := w0) base rfl rfl 34 (.tmp 51) (.tmp 50) rfl 34 (o' := kk * 2) (kk : Int) 0 cur y (.agg #[.int .i64 y.f0, .int .i64 y.f1]) [.int .i64 y.f0, .int .i64 y.f1] c2 P0_ (fun _ => False) rfl rfl rfl rfl (by kernel_rfl) (by intro u hu; simp at hu; rcases hu with rfl | rfl <;> rfl) HO2.out (by omega) hkI hc2 (fun j u hu => ?cc) (Nat.le_refl 2) ?mm (fun k hk => hk.elim) HB2.out ?_; (case cc => have := hcc2 j u hu; rw [Addr.add_lit, Nat.zero_add] at this; exact this); (case mm => have hl2 : c2.length = 2 := hc2; rw [List.take_zero, List.nil_append, List.drop_eq_nil_of_le (by rw [hl2]; exact Nat.le_refl 2), List.append_nil]; exact k34_mkM _ _ _ y); intro w3 ho3 hb3 hg3; have HO3 := aM ho3; have HB3 := aM hb3; have HG3 := aM (HG2.out.trans hg3); clear ho3 hb3 hg3)
        go_roundg (l.length - (m + 1 + n + 1 + 1))
        case measure => omega
        case rel => exact ⟨n + 1, kk + 1, cur.set kk y, by omega, by omega, by go_num, by go_num, HS, HO3, HB3, HG3⟩
      ·have hend : m + 1 + n + 1 = l.length := by omega
       have hd := HD.out
       rw [hend] at hd
       obtain ⟨hd1, hd2⟩ := hd.done
       have hge : ¬ ((n : Int) + 1 < ((l.length - (m + 1) : Nat) : Int)) := by omega
       have hkc : kk < c := by omega
       have hkn : (kk : Int) ≤ (l.length : Int) := by omega
       have hkl : kk < l.length := by omega
       clear HD hd
       have HD1 := aM hd1
       have HD2 := aM hd2
       have HLN := aM hlen
       clear hd1 hd2 hlen
       go_wp2
       obtain ⟨w2, hrun, ho2, hg2⟩ := R_clear_run (P := Try.prog) k34 base 34 57 0 Try.underlying57 (.agg #[(.int .i64 0), (.int .i64 0)]) zv34 rfl (by decide) z34 (.slice (some ⟨ga, 0, none⟩) l.length c) cur kk (l.length - kk) ga (c - kk) P0_ (k34_mkM _ _ _ z34) HO.out (by rw [HLN.out]; omega) rfl
       have HO2 := aM ho2
       have HG2 := aM hg2
       clear ho2 hg2
       have hrun' : (Builtin.clear_ #[57] 0 #[Value.slice (some { block := ga, off := kk * 2 }) (l.length - kk) (c - kk)]).run Try.prog wr = .ok (.tuple #[]) w2 := hrun
       rw [hrun']
       simp only [Result.andThen_ok, Oper.upon_value]
       clear hrun hrun'
       go_wp2
       go_ret
       have e1 : (cur.take kk ++ (List.replicate (l.length - kk) z34 ++ cur.drop (kk + (l.length - kk)))).take kk = dd34 eqs34 l := by
        rw [List.take_append_of_le_length (by rw [List.length_take, HLN.out]; omega), List.take_take, Nat.min_self]
        exact HD1.out
       have ho3 := Kd.R_take (m := kk) HO2.out (by simp [HLN.out]; omega)
       rw [e1] at ho3
       exact ⟨_, rfl, ho3, HB.out.grown HG2.out (by have := HG.out.size; omega) (fun k hk => own_base (Kd.R_own HO.out).choose_spec k hk), HG.out.trans HG2.out⟩
    | false =>
     have HP := aM (HPN.out hq)
     clear HPY HPN hQ
     unfold eqs34 at hq
     go_wp2
     go_region
     go_wp2
     go_roundg (l.length - (m + 1 + 1))
     case measure => omega
     case rel => exact ⟨m + 1, by omega, by omega, by go_num, ⟨by repeat (first | exact HB.out | apply bN | apply bD)⟩, HP⟩
   ·have hml2 : m + 1 = l.length := by omega
    have hdd : dd34 eqs34 l = l := by
     have := dd_pre34 eqs34 l l.length (Nat.le_refl _) (fun i h0 h1 h2 => HP.out i h0 (by omega) h2)
     rwa [List.take_length] at this
    have hge : ¬ ((m : Int) + 1 < (l.length : Int)) := by omega
    have HDD := aM hdd
    clear hdd
    go_wp2
    go_ret
    rw [HDD.out]
    exact ⟨_, rfl, rB hO.out HB.out, HB0.out.trans (HB.out.mono hbase), grown_of_below HB.out _⟩
def api_Ref_58.f (l0 : List S34) : Option (List S34) := some (dd34 eqs34 l0)
theorem api_Ref_58.calls (P0_ : Nat → Prop) (u9000_ : Value) (l0 : List (S34)) (r : List (S34)) (w0 w : World) (hB : Below w0.heap.size w0 w) (ho0 : Kd.R k34 34 w w0.heap.size P0_ u9000_ l0) (h : api_Ref_58.f l0 = some r) :
  Calls Try.prog 58 #[u9000_] w fun e w' => ∃ v0_ : Value, e = .returned (v0_) ∧ Kd.R k34 34 w' w0.heap.size (fun k_ => (P0_ k_ ∨ w.heap.size ≤ k_)) v0_ r ∧ Below w0.heap.size w0 w' ∧ Kept w w' (fun k_ => P0_ k_) := by
 obtain rfl := Option.some.inj h
 obtain ⟨A, c, rfl⟩ := Kd.R_slice ho0
 have hP := ho0.1
 refine (cp58 w0.heap.size A c l0 w0 w P0_ ho0 hB hB.size).mono ?_
 rintro e w' ⟨v, rfl, h1, h2, hg⟩
 exact ⟨v, rfl, rM h1 (fun _ hk => .inl hk), h2, hg.size, fun i hi hne => hg.block i hi (fun he => hne (hP i he.symm))⟩
theorem eqM34 (d : Nat) (w : World) (x0 y0 : Int) (x1 y1 : Int) :
  (Op.equalIn (d + 2) 34 (.agg #[.int .i64 x0, .int .i64 x1]) (.agg #[.int .i64 y0, .int .i64 y1])).run Try.prog w = .ok (x0 == y0 && (x1 == y1)) w := by
 refine eqA_of Try.underlying34 (by kernel_rfl) ?_
 refine eqf_cons (by rfl) (by go_simp; rfl) (by go_simp; rfl) (by go_simp) ?_
 exact eqf_last (by rfl) (by go_simp; rfl) (by go_simp; rfl) (by go_simp)
attribute [local go_sem high] eqM34
set_option maxHeartbeats 4000000 in
set_option maxRecDepth 100000 in
theorem closure53 (a1_0 a1_1 : Int) (B : Nat) (w : World) (hB : w.heap[B]? = some (.cells #[.int .i64 a1_0, .int .i64 a1_1] 34 (0, 0))) (W : World) (x : S67) (hb : Below w.heap.size w W) :
  Calls Try.prog 53 (#[.agg #[.int .i64 x.f0.f0, .int .i64 x.f0.f1, .string x.f1]] ++ #[.pointer (some ⟨B, 0, none⟩)]) W fun e w' => e = .returned (.bool (x.f0.f0 == a1_0 && (x.f0.f1 == a1_1))) ∧ Below w.heap.size w w' := by
 have hu67 := Try.underlying67
 have hu34 := Try.underlying34
 have hlt : B < w.heap.size := blk_lt hB
 have h0 : W.cell? ⟨B, 0, none⟩ = some (.int .i64 a1_0) := (hb.cell (p := ⟨B, 0, none⟩) hlt).trans ((kC hB 0).trans rfl)
 have h1 : W.cell? ⟨B, 1, none⟩ = some (.int .i64 a1_1) := (hb.cell (p := ⟨B, 1, none⟩) hlt).trans ((kC hB 1).trans rfl)
 have hne : B ≠ W.heap.size := by have := hb.size; omega
 have hlW : B < W.heap.size := Nat.lt_of_lt_of_le hlt hb.size
 have hbw : Below W.heap.size W (W.alloc (.cells #[.int .i64 x.f0.f0, .int .i64 x.f0.f1, .string x.f1] 67)) := (Below.refl _ _).alloc (Nat.le_refl _) _
 have h0a := (hbw.cell (p := ⟨B, 0, none⟩) hlW).trans h0
 have h1a := (hbw.cell (p := ⟨B, 1, none⟩) hlW).trans h1
 clear hbw
 have HB := aM hb
 clear hb hB
 show Calls Try.prog 53 #[.agg #[.int .i64 x.f0.f0, .int .i64 x.f0.f1, .string x.f1], .pointer (some ⟨B, 0, none⟩)] W _
 go_enter Try.func53, Try.ntmps53
 go_wp2
 go_ret
 exact ⟨rfl, by repeat (first | (with_reducible first | exact HB.out | apply bN | apply bD) | (refine (HB.out.alloc HB.out.size _)))⟩
def api_Member_by_data_Users_1.f (l0 : List (S67)) (a1_0 a1_1 : Int) : Option Bool := some (l0.any (fun x => x.f0.f0 == a1_0 && (x.f0.f1 == a1_1)))
set_option maxHeartbeats 4000000 in
set_option maxRecDepth 100000 in
theorem api_Member_by_data_Users_1.callsB (B : Nat) (A0 : Option Addr) (c0 : Nat) (l0 : List (S67)) (a1_0 a1_1 : Int) (r : Bool) (w : World) (hr0 : Kd.C k67 w A0 l0.length l0) (hc0 : l0.length ≤ c0) (hB : w.heap[B]? = some (.cells #[.int .i64 a1_0, .int .i64 a1_1] 34 (0, 0))) (h : api_Member_by_data_Users_1.f l0 a1_0 a1_1 = some r) :
  Calls Try.prog 52 #[.slice A0 l0.length c0, .func (.func 53) #[] #[.pointer (some ⟨B, 0, none⟩)]] w fun e w' => e = .returned (.bool r) ∧ Below w.heap.size w w' := by
 obtain rfl := Option.some.inj h
 have eg : ∀ args w, (callFunc 53 args).run Try.prog w = .ok (.enter 53 args) w := enters_of Try.func53 (by kernel_rfl) rfl
 have HX := aM (ix84 (fun x => x.f0.f0 == a1_0 && (x.f0.f1 == a1_1)) 53 #[.pointer (some ⟨B, 0, none⟩)] eg A0 c0 l0 w hr0 (closure53 a1_0 a1_1 B w hB))
 have HA := aM (ixOf_any (fun x => x.f0.f0 == a1_0 && (x.f0.f1 == a1_1)) l0)
 clear hr0 eg h hB
 generalize l0.any (fun x => x.f0.f0 == a1_0 && (x.f0.f1 == a1_1)) = r at HA ⊢
 generalize ixOf (fun x => x.f0.f0 == a1_0 && (x.f0.f1 == a1_1)) l0 = n at HA HX
 go_enter Try.func52, Try.ntmps52
 go_wp2_with (first | (go_at_call 84; refine HX.out.mono ?_; rintro e w1 ⟨rfl, hb1⟩) | go_in)
 go_ret
 refine ⟨?_, hb1⟩
 rw [← HA.out]
 rfl
end Go.Proofs.Ytgenbepicnbecaa.PAll
