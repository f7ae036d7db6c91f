-- out of a driver of this session's prover over the kit's print: Lean checks it
import Derived.Test.YtolhkhaglopioaaPClassifyThemesx0
namespace Go.Proofs.Ytolhkhaglopioaa.PClassifyThemes
open Go.Proofs.YtolhkhaglopioaaG
open Go.RowKit Go.Proofs.YtolhkhaglopioaaW.PrintWords Go.Proofs.YtolhkhaglopioaaW.PrintLast Go.Proofs.YtolhkhaglopioaaW.PrintMore
attribute [local go_sem] max2_int min2_int max_two min_two max_three min_three max_four min_four   -- for this text's walks alone
set_option linter.unusedVariables false
set_option linter.unusedSimpArgs false

/-! ### mapmakerref06_Get: function 31 -/
def mapmakerref06_Get.l0 : Nat → List (S32) → ByteArray → Int → Option (ByteArray × Bool)
  | 0, _, _, _ => none
  | k + 1, x0, x1, x6 => if x6 < (x0.length : Int) then (if 0 ≤ x6 then (if ((rd_T32 x0 x6).f0).toList = x1.toList then (some ((rd_T32 x0 x6).f1, true)) else (mapmakerref06_Get.l0 k x0 x1 (wrap64 (x6 + 1)))) else (none)) else (some ((⟨#[]⟩ : ByteArray), false))
def mapmakerref06_Get.f (k : Nat) (l0 : List (S32)) (a1 : ByteArray) : Option (ByteArray × Bool) := mapmakerref06_Get.l0 k l0 a1 0
theorem mapmakerref06_Get.mono_l : ∀ k, (∀ y0 y1 y2, LeO (mapmakerref06_Get.l0 k y0 y1 y2) (mapmakerref06_Get.l0 (k + 1) y0 y1 y2))
  | 0 => fun _ _ _ r h => by simp [mapmakerref06_Get.l0] at h
  | k + 1 => by
    have ih0 := mapmakerref06_Get.mono_l k
    · intro y0 y1 y2
      unfold mapmakerref06_Get.l0
      repeat' first
      | (with_reducible exact ih0 _ _ _)
      | (with_reducible exact LeO.refl _)
      | (with_reducible exact LeO.none _)
      | (with_reducible refine LeO.ite ?_ ?_)
      | (with_reducible refine LeO.bind ?_ (fun _ => ?_))
      | exact ih0 _ _ _
      | exact LeO.none _
      | refine LeO.ite ?_ ?_
      | refine LeO.bind ?_ (fun _ => ?_)
theorem mapmakerref06_Get.mono : ∀ a0 a1 k, LeO (mapmakerref06_Get.f k a0 a1) (mapmakerref06_Get.f (k + 1) a0 a1) := by
  intro a0 a1 k
  have ih0 := mapmakerref06_Get.mono_l k
  unfold mapmakerref06_Get.f
  repeat' first
      | (with_reducible exact ih0 _ _ _)
      | (with_reducible exact LeO.refl _)
      | (with_reducible exact LeO.none _)
      | (with_reducible refine LeO.ite ?_ ?_)
      | (with_reducible refine LeO.bind ?_ (fun _ => ?_))
      | exact ih0 _ _ _
      | exact LeO.none _
      | refine LeO.ite ?_ ?_
      | refine LeO.bind ?_ (fun _ => ?_)
set_option maxHeartbeats 8000000 in
set_option maxRecDepth 100000 in
theorem mapmakerref06_Get.calls (k : Nat) (A0 : Option Addr) (c0 : Nat) (l0 : List (S32)) (a1 : ByteArray) (r1 : ByteArray) (r2 : Bool) (w : World) (hr0 : Kd.C k32 w A0 l0.length l0) (hc0 : l0.length ≤ c0) (h : mapmakerref06_Get.f k l0 a1 = some (r1, r2)) :
    Calls Try.prog 31 #[.slice A0 l0.length c0, .string a1] w fun e w' => e = .returned (.tuple #[.string r1, .bool r2]) ∧ Drawn0 w w' := by
  have HR0 := Aside0.mk hr0
  have HC0 := Aside0.mk hc0
  clear hr0 hc0
  have H : (mapmakerref06_Get.l0 k l0 a1 0) = some (r1, r2) := h
  clear h
  have H' := Aside0.mk H
  clear H
  go_enter Try.func31, Try.ntmps31
  go_wp2
  go_loopg [6] k (fun kq v6 w' => ∃ (x6_1 : Int), v6 = .int .i64 x6_1 ∧ Aside0 (mapmakerref06_Get.l0 kq l0 a1 x6_1 = some (r1, r2)) ∧ Aside0 (kq ≤ k) ∧ Drawn0 w w')
  case atStart => exact ⟨(0), (by first | rfl | (simp; done) | (simp [*]; done)), H', ⟨Nat.le_refl _⟩, by repeat (first | exact Drawn0.refl _ | apply Drawn0.step)⟩
  case round =>
    clear H'
    try clear p2
    obtain ⟨x6_1, rfl, HA, HK1, ⟨m1, rfl⟩⟩ := hrel
    cases gk with
    | zero => exact absurd HA.out (by simp [mapmakerref06_Get.l0])
    | succ k1 =>
      have H := HA.out
      clear HA
      simp only [mapmakerref06_Get.l0] at H
      by_cases c3 : x6_1 < (l0.length : Int)
      · rw [if_pos c3] at H
        have c3b0 : decide (x6_1 < (l0.length : Int)) = true := decide_eq_true c3
        clear c3
        by_cases c4 : 0 ≤ x6_1
        · rw [if_pos c4] at H
          have c4b0 : decide (0 ≤ x6_1) = true := decide_eq_true c4
          clear c4
          by_cases c5 : ((rd_T32 l0 x6_1).f0).toList = a1.toList
          · rw [if_pos c5] at H
            have c5b0 : (((rd_T32 l0 x6_1).f0).toList == a1.toList) = true := beq_iff_eq.mpr c5
            have c5b1 : (((rd_T32 l0 x6_1).f0).toList != a1.toList) = false := bne_eq_false_iff_eq.mpr c5
            clear c5
            simp only [Option.some.injEq, Prod.mk.injEq] at H
            obtain ⟨rfl, rfl⟩ := H
            have p155 : 0 ≤ (x6_1 : Int) := of_decide_eq_true (by first | (with_reducible assumption) | assumption)
            have q155 : x6_1 < (l0.length : Int) := of_decide_eq_true (by first | (with_reducible assumption) | assumption)
            obtain ⟨ad155, e155, hx155_0, hx155_1⟩ := at_T32 HR0.out x6_1 p155 q155
            cases e155
            replace p155 := eq_true p155
            replace q155 := eq_true q155
            have p156 : 0 ≤ (x6_1 : Int) := of_decide_eq_true (by first | (with_reducible assumption) | assumption)
            have q156 : x6_1 < (l0.length : Int) := of_decide_eq_true (by first | (with_reducible assumption) | assumption)
            obtain ⟨ad156, e156, hx156_0, hx156_1⟩ := at_T32 HR0.out x6_1 p156 q156
            obtain rfl : ad155 = ad156 := (by injection e156)
            replace p156 := eq_true p156
            replace q156 := eq_true q156
            go_wp2
            go_ret2
            exact ⟨by first | rfl | (simp; done) | (simp [*]; done), by repeat (first | exact Drawn0.refl _ | apply Drawn0.step)⟩
          · rw [if_neg c5] at H
            have c5b0 : (((rd_T32 l0 x6_1).f0).toList == a1.toList) = false := beq_eq_false_iff_ne.mpr c5
            have c5b1 : (((rd_T32 l0 x6_1).f0).toList != a1.toList) = true := bne_iff_ne.mpr c5
            have H' := Aside0.mk H
            clear H
            have p155 : 0 ≤ (x6_1 : Int) := of_decide_eq_true (by first | (with_reducible assumption) | assumption)
            have q155 : x6_1 < (l0.length : Int) := of_decide_eq_true (by first | (with_reducible assumption) | assumption)
            obtain ⟨ad155, e155, hx155_0, hx155_1⟩ := at_T32 HR0.out x6_1 p155 q155
            cases e155
            replace p155 := eq_true p155
            replace q155 := eq_true q155
            go_wp2
            go_roundg k1
            case measure => have := HK1.out; omega
            case rel => exact ⟨(wrap64 (x6_1 + 1)), (by first | rfl | (simp; done) | (simp [*]; done)), H', ⟨by have := HK1.out; omega⟩, by repeat (first | exact Drawn0.refl _ | apply Drawn0.step)⟩
        · rw [if_neg c4] at H
          exact absurd H (by simp)
      · rw [if_neg c3] at H
        have c3b0 : decide (x6_1 < (l0.length : Int)) = false := decide_eq_false c3
        clear c3
        simp only [Option.some.injEq, Prod.mk.injEq] at H
        obtain ⟨rfl, rfl⟩ := H
        go_wp2
        go_ret2
        exact ⟨by first | rfl | (simp; done) | (simp [*]; done), by repeat (first | exact Drawn0.refl _ | apply Drawn0.step)⟩

/-! ### mapmakerref18_is: function 27 -/
def mapmakerref18_is.f (k : Nat) (l0 : List (S32)) (a1 : ByteArray) (a2 : ByteArray) : Option (Bool) := (mapmakerref06_Get.f k l0 a1).bind fun bt157 => (if bt157.2 = true then (some (bt157.1.toList == a2.toList)) else (some false))
theorem mapmakerref18_is.mono : ∀ a0 a1 a2 k, LeO (mapmakerref18_is.f k a0 a1 a2) (mapmakerref18_is.f (k + 1) a0 a1 a2) := by
  intro a0 a1 a2 k
  unfold mapmakerref18_is.f
  repeat' first
      | (with_reducible exact mapmakerref06_Get.mono _ _ _)
      | (with_reducible exact LeO.refl _)
      | (with_reducible exact LeO.none _)
      | (with_reducible refine LeO.ite ?_ ?_)
      | (with_reducible refine LeO.bind ?_ (fun _ => ?_))
      | exact mapmakerref06_Get.mono _ _ _
      | exact LeO.none _
      | refine LeO.ite ?_ ?_
      | refine LeO.bind ?_ (fun _ => ?_)
set_option maxHeartbeats 8000000 in
set_option maxRecDepth 100000 in
theorem mapmakerref18_is.calls (k : Nat) (A0 : Option Addr) (c0 : Nat) (l0 : List (S32)) (a1 : ByteArray) (a2 : ByteArray) (r : Bool) (w : World) (hr0 : Kd.C k32 w A0 l0.length l0) (hc0 : l0.length ≤ c0) (h : mapmakerref18_is.f k l0 a1 a2 = some r) :
    Calls Try.prog 27 #[.slice A0 l0.length c0, .string a1, .string a2] w fun e w' => e = .returned (.bool r) ∧ Drawn0 w w' := by
  have HR0 := Aside0.mk hr0
  have HC0 := Aside0.mk hc0
  clear hr0 hc0
  have H : ((mapmakerref06_Get.f k l0 a1).bind fun bt157 => (if bt157.2 = true then (some (bt157.1.toList == a2.toList)) else (some false))) = some r := h
  clear h
  replace H := Option.bind_eq_some_iff.mp H
  obtain ⟨⟨t157, t158⟩, A40, H⟩ := H
  replace H : (if t158 = true then (some (t157.toList == a2.toList)) else (some false)) = some r := H
  have A4 := Aside0.mk A40
  clear A40
  by_cases c5 : t158 = true
  · subst c5
    have H1 : (some (t157.toList == a2.toList)) = some r := by rw [if_pos rfl] at H; exact H
    clear H
    have H := H1
    clear H1
    obtain rfl := Option.some.inj H
    go_enter Try.func27, Try.ntmps27
    go_wp2_with (first | ((with_reducible refine gate_callee (f := 31) rfl ?_); refine goesL_ (some 12) rfl rfl Try.func31 (by kernel_rfl) rfl #[.slice A0 l0.length c0, .string a1] rfl (by (try simp only [List.map_toArray, List.map_cons, List.map_nil]); first | done | rfl | (simp only [List.length_drop, List.length_take]; rfl)) ?_; (with_reducible refine (mapmakerref06_Get.calls k _ _ l0 a1 t157 true _ ?side1 ?side2 A4.out).mono ?_); (case side1 => repeat (first | exact HR0.out | (with_reducible refine Kd.C_alloc ?_ _) | (with_reducible refine Kd.C_drewN ?_ _) | (with_reducible refine Kd.C_drew ?_))); (case side2 => exact HC0.out); rintro e w' ⟨rfl, ⟨nd, rfl⟩⟩; refine ⟨_, rfl, ?_⟩))
    go_ret
    exact ⟨by first | rfl | (simp; done) | (simp [*]; done), by repeat (first | exact Drawn0.refl _ | apply Drawn0.step)⟩
  · replace c5 := Bool.eq_false_iff.mpr c5
    subst c5
    have H1 : (some false) = some r := by rw [if_neg (show ¬ (false = true) by decide)] at H; exact H
    clear H
    have H := H1
    clear H1
    obtain rfl := Option.some.inj H
    go_enter Try.func27, Try.ntmps27
    go_wp2_with (first | ((with_reducible refine gate_callee (f := 31) rfl ?_); refine goesL_ (some 12) rfl rfl Try.func31 (by kernel_rfl) rfl #[.slice A0 l0.length c0, .string a1] rfl (by (try simp only [List.map_toArray, List.map_cons, List.map_nil]); first | done | rfl | (simp only [List.length_drop, List.length_take]; rfl)) ?_; (with_reducible refine (mapmakerref06_Get.calls k _ _ l0 a1 t157 false _ ?side1 ?side2 A4.out).mono ?_); (case side1 => repeat (first | exact HR0.out | (with_reducible refine Kd.C_alloc ?_ _) | (with_reducible refine Kd.C_drewN ?_ _) | (with_reducible refine Kd.C_drew ?_))); (case side2 => exact HC0.out); rintro e w' ⟨rfl, ⟨nd, rfl⟩⟩; refine ⟨_, rfl, ?_⟩))
    go_ret
    exact ⟨by first | rfl | (simp; done) | (simp [*]; done), by repeat (first | exact Drawn0.refl _ | apply Drawn0.step)⟩

/-! ### mapmakerref18_has: function 28 -/
def mapmakerref18_has.f (k : Nat) (l0 : List (S32)) (a1 : ByteArray) : Option (Bool) := (mapmakerref06_Get.f k l0 a1).bind fun bt159 => (some bt159.2)
theorem mapmakerref18_has.mono : ∀ a0 a1 k, LeO (mapmakerref18_has.f k a0 a1) (mapmakerref18_has.f (k + 1) a0 a1) := by
  intro a0 a1 k
  unfold mapmakerref18_has.f
  repeat' first
      | (with_reducible exact mapmakerref06_Get.mono _ _ _)
      | (with_reducible exact LeO.refl _)
      | (with_reducible exact LeO.none _)
      | (with_reducible refine LeO.ite ?_ ?_)
      | (with_reducible refine LeO.bind ?_ (fun _ => ?_))
      | exact mapmakerref06_Get.mono _ _ _
      | exact LeO.none _
      | refine LeO.ite ?_ ?_
      | refine LeO.bind ?_ (fun _ => ?_)
set_option maxHeartbeats 8000000 in
set_option maxRecDepth 100000 in
theorem mapmakerref18_has.calls (k : Nat) (A0 : Option Addr) (c0 : Nat) (l0 : List (S32)) (a1 : ByteArray) (r : Bool) (w : World) (hr0 : Kd.C k32 w A0 l0.length l0) (hc0 : l0.length ≤ c0) (h : mapmakerref18_has.f k l0 a1 = some r) :
    Calls Try.prog 28 #[.slice A0 l0.length c0, .string a1] w fun e w' => e = .returned (.bool r) ∧ Drawn0 w w' := by
  have HR0 := Aside0.mk hr0
  have HC0 := Aside0.mk hc0
  clear hr0 hc0
  have H : ((mapmakerref06_Get.f k l0 a1).bind fun bt159 => (some bt159.2)) = some r := h
  clear h
  replace H := Option.bind_eq_some_iff.mp H
  obtain ⟨⟨t159, t160⟩, A30, H⟩ := H
  replace H : (some t160) = some r := H
  have A3 := Aside0.mk A30
  clear A30
  obtain rfl := Option.some.inj H
  go_enter Try.func28, Try.ntmps28
  go_wp2_with (first | ((with_reducible refine gate_callee (f := 31) rfl ?_); refine goesL_ (some 10) rfl rfl Try.func31 (by kernel_rfl) rfl #[.slice A0 l0.length c0, .string a1] rfl (by (try simp only [List.map_toArray, List.map_cons, List.map_nil]); first | done | rfl | (simp only [List.length_drop, List.length_take]; rfl)) ?_; (with_reducible refine (mapmakerref06_Get.calls k _ _ l0 a1 t159 t160 _ ?side1 ?side2 A3.out).mono ?_); (case side1 => repeat (first | exact HR0.out | (with_reducible refine Kd.C_alloc ?_ _) | (with_reducible refine Kd.C_drewN ?_ _) | (with_reducible refine Kd.C_drew ?_))); (case side2 => exact HC0.out); rintro e w' ⟨rfl, ⟨nd, rfl⟩⟩; refine ⟨_, rfl, ?_⟩))
  go_ret
  exact ⟨by first | rfl | (simp; done) | (simp [*]; done), by repeat (first | exact Drawn0.refl _ | apply Drawn0.step)⟩

/-! ### mapmakerref18_Class: function 16 -/
def mapmakerref18_Class.f (k : Nat) (l0 : List (S32)) : Option (Int) := (mapmakerref18_is.f k l0 (⟨#[104, 105, 103, 104, 119, 97, 121]⟩ : ByteArray) (⟨#[109, 111, 116, 111, 114, 119, 97, 121]⟩ : ByteArray)).bind fun t161 => (if t161 = true then (some 1) else ((mapmakerref18_is.f k l0 (⟨#[104, 105, 103, 104, 119, 97, 121]⟩ : ByteArray) (⟨#[112, 114, 105, 109, 97, 114, 121]⟩ : ByteArray)).bind fun t162 => (if t162 = true then (some 2) else ((mapmakerref18_is.f k l0 (⟨#[104, 105, 103, 104, 119, 97, 121]⟩ : ByteArray) (⟨#[115, 101, 99, 111, 110, 100, 97, 114, 121]⟩ : ByteArray)).bind fun t163 => (if t163 = true then (some 3) else ((mapmakerref18_is.f k l0 (⟨#[104, 105, 103, 104, 119, 97, 121]⟩ : ByteArray) (⟨#[114, 101, 115, 105, 100, 101, 110, 116, 105, 97, 108]⟩ : ByteArray)).bind fun t164 => (if t164 = true then (some 4) else ((mapmakerref18_is.f k l0 (⟨#[104, 105, 103, 104, 119, 97, 121]⟩ : ByteArray) (⟨#[116, 114, 97, 99, 107]⟩ : ByteArray)).bind fun t165 => (if t165 = true then (some 5) else ((mapmakerref18_has.f k l0 (⟨#[104, 105, 103, 104, 119, 97, 121]⟩ : ByteArray)).bind fun t166 => (if t166 = true then (some 0) else ((mapmakerref18_is.f k l0 (⟨#[114, 111, 117, 116, 101]⟩ : ByteArray) (⟨#[102, 101, 114, 114, 121]⟩ : ByteArray)).bind fun t167 => (if t167 = true then (some 6) else (some 0))))))))))))))
theorem mapmakerref18_Class.mono : ∀ a0 k, LeO (mapmakerref18_Class.f k a0) (mapmakerref18_Class.f (k + 1) a0) := by
  intro a0 k
  unfold mapmakerref18_Class.f
  repeat' first
      | (with_reducible exact mapmakerref18_has.mono _ _ _)
      | (with_reducible exact mapmakerref18_is.mono _ _ _ _)
      | (with_reducible exact LeO.refl _)
      | (with_reducible exact LeO.none _)
      | (with_reducible refine LeO.ite ?_ ?_)
      | (with_reducible refine LeO.bind ?_ (fun _ => ?_))
      | exact mapmakerref18_has.mono _ _ _
      | exact mapmakerref18_is.mono _ _ _ _
      | exact LeO.none _
      | refine LeO.ite ?_ ?_
      | refine LeO.bind ?_ (fun _ => ?_)
set_option maxHeartbeats 8000000 in
set_option maxRecDepth 100000 in
theorem mapmakerref18_Class.calls (k : Nat) (A0 : Option Addr) (c0 : Nat) (l0 : List (S32)) (r : Int) (w : World) (hr0 : Kd.C k32 w A0 l0.length l0) (hc0 : l0.length ≤ c0) (h : mapmakerref18_Class.f k l0 = some r) :
    Calls Try.prog 16 #[.slice A0 l0.length c0] w fun e w' => e = .returned (.int .i64 r) ∧ Drawn0 w w' := by
  have HR0 := Aside0.mk hr0
  have HC0 := Aside0.mk hc0
  clear hr0 hc0
  have H : ((mapmakerref18_is.f k l0 (⟨#[104, 105, 103, 104, 119, 97, 121]⟩ : ByteArray) (⟨#[109, 111, 116, 111, 114, 119, 97, 121]⟩ : ByteArray)).bind fun t161 => (if t161 = true then (some 1) else ((mapmakerref18_is.f k l0 (⟨#[104, 105, 103, 104, 119, 97, 121]⟩ : ByteArray) (⟨#[112, 114, 105, 109, 97, 114, 121]⟩ : ByteArray)).bind fun t162 => (if t162 = true then (some 2) else ((mapmakerref18_is.f k l0 (⟨#[104, 105, 103, 104, 119, 97, 121]⟩ : ByteArray) (⟨#[115, 101, 99, 111, 110, 100, 97, 114, 121]⟩ : ByteArray)).bind fun t163 => (if t163 = true then (some 3) else ((mapmakerref18_is.f k l0 (⟨#[104, 105, 103, 104, 119, 97, 121]⟩ : ByteArray) (⟨#[114, 101, 115, 105, 100, 101, 110, 116, 105, 97, 108]⟩ : ByteArray)).bind fun t164 => (if t164 = true then (some 4) else ((mapmakerref18_is.f k l0 (⟨#[104, 105, 103, 104, 119, 97, 121]⟩ : ByteArray) (⟨#[116, 114, 97, 99, 107]⟩ : ByteArray)).bind fun t165 => (if t165 = true then (some 5) else ((mapmakerref18_has.f k l0 (⟨#[104, 105, 103, 104, 119, 97, 121]⟩ : ByteArray)).bind fun t166 => (if t166 = true then (some 0) else ((mapmakerref18_is.f k l0 (⟨#[114, 111, 117, 116, 101]⟩ : ByteArray) (⟨#[102, 101, 114, 114, 121]⟩ : ByteArray)).bind fun t167 => (if t167 = true then (some 6) else (some 0))))))))))))))) = some r := h
  clear h
  replace H := Option.bind_eq_some_iff.mp H
  obtain ⟨t161, A20, H⟩ := H
  replace H : (if t161 = true then (some 1) else ((mapmakerref18_is.f k l0 (⟨#[104, 105, 103, 104, 119, 97, 121]⟩ : ByteArray) (⟨#[112, 114, 105, 109, 97, 114, 121]⟩ : ByteArray)).bind fun t162 => (if t162 = true then (some 2) else ((mapmakerref18_is.f k l0 (⟨#[104, 105, 103, 104, 119, 97, 121]⟩ : ByteArray) (⟨#[115, 101, 99, 111, 110, 100, 97, 114, 121]⟩ : ByteArray)).bind fun t163 => (if t163 = true then (some 3) else ((mapmakerref18_is.f k l0 (⟨#[104, 105, 103, 104, 119, 97, 121]⟩ : ByteArray) (⟨#[114, 101, 115, 105, 100, 101, 110, 116, 105, 97, 108]⟩ : ByteArray)).bind fun t164 => (if t164 = true then (some 4) else ((mapmakerref18_is.f k l0 (⟨#[104, 105, 103, 104, 119, 97, 121]⟩ : ByteArray) (⟨#[116, 114, 97, 99, 107]⟩ : ByteArray)).bind fun t165 => (if t165 = true then (some 5) else ((mapmakerref18_has.f k l0 (⟨#[104, 105, 103, 104, 119, 97, 121]⟩ : ByteArray)).bind fun t166 => (if t166 = true then (some 0) else ((mapmakerref18_is.f k l0 (⟨#[114, 111, 117, 116, 101]⟩ : ByteArray) (⟨#[102, 101, 114, 114, 121]⟩ : ByteArray)).bind fun t167 => (if t167 = true then (some 6) else (some 0)))))))))))))) = some r := H
  have A2 := Aside0.mk A20
  clear A20
  by_cases c3 : t161 = true
  · subst c3
    have H1 : (some 1) = some r := by rw [if_pos rfl] at H; exact H
    clear H
    have H := H1
    clear H1
    obtain rfl := Option.some.inj H
    go_enter Try.func16, Try.ntmps16
    go_wp2_with (first | ((with_reducible refine gate_callee (f := 27) rfl ?_); refine goesL_ (some 4) rfl rfl Try.func27 (by kernel_rfl) rfl #[.slice A0 l0.length c0, .string (⟨#[104, 105, 103, 104, 119, 97, 121]⟩ : ByteArray), .string (⟨#[109, 111, 116, 111, 114, 119, 97, 121]⟩ : ByteArray)] rfl (by (try simp only [List.map_toArray, List.map_cons, List.map_nil]); first | done | rfl | (simp only [List.length_drop, List.length_take]; rfl)) ?_; (with_reducible refine (mapmakerref18_is.calls k _ _ l0 (⟨#[104, 105, 103, 104, 119, 97, 121]⟩ : ByteArray) (⟨#[109, 111, 116, 111, 114, 119, 97, 121]⟩ : ByteArray) true _ ?side1 ?side2 A2.out).mono ?_); (case side1 => repeat (first | exact HR0.out | (with_reducible refine Kd.C_alloc ?_ _) | (with_reducible refine Kd.C_drewN ?_ _) | (with_reducible refine Kd.C_drew ?_))); (case side2 => exact HC0.out); rintro e w' ⟨rfl, ⟨nd, rfl⟩⟩; refine ⟨_, rfl, ?_⟩))
    go_ret
    exact ⟨by first | rfl | (simp; done) | (simp [*]; done), by repeat (first | exact Drawn0.refl _ | apply Drawn0.step)⟩
  · replace c3 := Bool.eq_false_iff.mpr c3
    subst c3
    have H1 : ((mapmakerref18_is.f k l0 (⟨#[104, 105, 103, 104, 119, 97, 121]⟩ : ByteArray) (⟨#[112, 114, 105, 109, 97, 114, 121]⟩ : ByteArray)).bind fun t162 => (if t162 = true then (some 2) else ((mapmakerref18_is.f k l0 (⟨#[104, 105, 103, 104, 119, 97, 121]⟩ : ByteArray) (⟨#[115, 101, 99, 111, 110, 100, 97, 114, 121]⟩ : ByteArray)).bind fun t163 => (if t163 = true then (some 3) else ((mapmakerref18_is.f k l0 (⟨#[104, 105, 103, 104, 119, 97, 121]⟩ : ByteArray) (⟨#[114, 101, 115, 105, 100, 101, 110, 116, 105, 97, 108]⟩ : ByteArray)).bind fun t164 => (if t164 = true then (some 4) else ((mapmakerref18_is.f k l0 (⟨#[104, 105, 103, 104, 119, 97, 121]⟩ : ByteArray) (⟨#[116, 114, 97, 99, 107]⟩ : ByteArray)).bind fun t165 => (if t165 = true then (some 5) else ((mapmakerref18_has.f k l0 (⟨#[104, 105, 103, 104, 119, 97, 121]⟩ : ByteArray)).bind fun t166 => (if t166 = true then (some 0) else ((mapmakerref18_is.f k l0 (⟨#[114, 111, 117, 116, 101]⟩ : ByteArray) (⟨#[102, 101, 114, 114, 121]⟩ : ByteArray)).bind fun t167 => (if t167 = true then (some 6) else (some 0))))))))))))) = some r := by rw [if_neg (show ¬ (false = true) by decide)] at H; exact H
    clear H
    have H := H1
    clear H1
    replace H := Option.bind_eq_some_iff.mp H
    obtain ⟨t162, A40, H⟩ := H
    replace H : (if t162 = true then (some 2) else ((mapmakerref18_is.f k l0 (⟨#[104, 105, 103, 104, 119, 97, 121]⟩ : ByteArray) (⟨#[115, 101, 99, 111, 110, 100, 97, 114, 121]⟩ : ByteArray)).bind fun t163 => (if t163 = true then (some 3) else ((mapmakerref18_is.f k l0 (⟨#[104, 105, 103, 104, 119, 97, 121]⟩ : ByteArray) (⟨#[114, 101, 115, 105, 100, 101, 110, 116, 105, 97, 108]⟩ : ByteArray)).bind fun t164 => (if t164 = true then (some 4) else ((mapmakerref18_is.f k l0 (⟨#[104, 105, 103, 104, 119, 97, 121]⟩ : ByteArray) (⟨#[116, 114, 97, 99, 107]⟩ : ByteArray)).bind fun t165 => (if t165 = true then (some 5) else ((mapmakerref18_has.f k l0 (⟨#[104, 105, 103, 104, 119, 97, 121]⟩ : ByteArray)).bind fun t166 => (if t166 = true then (some 0) else ((mapmakerref18_is.f k l0 (⟨#[114, 111, 117, 116, 101]⟩ : ByteArray) (⟨#[102, 101, 114, 114, 121]⟩ : ByteArray)).bind fun t167 => (if t167 = true then (some 6) else (some 0)))))))))))) = some r := H
    have A4 := Aside0.mk A40
    clear A40
    by_cases c5 : t162 = true
    · subst c5
      have H1 : (some 2) = some r := by rw [if_pos rfl] at H; exact H
      clear H
      have H := H1
      clear H1
      obtain rfl := Option.some.inj H
      go_enter Try.func16, Try.ntmps16
      go_wp2_with (first | ((with_reducible refine gate_callee (f := 27) rfl ?_); refine goesL_ (some 4) rfl rfl Try.func27 (by kernel_rfl) rfl #[.slice A0 l0.length c0, .string (⟨#[104, 105, 103, 104, 119, 97, 121]⟩ : ByteArray), .string (⟨#[109, 111, 116, 111, 114, 119, 97, 121]⟩ : ByteArray)] rfl (by (try simp only [List.map_toArray, List.map_cons, List.map_nil]); first | done | rfl | (simp only [List.length_drop, List.length_take]; rfl)) ?_; (with_reducible refine (mapmakerref18_is.calls k _ _ l0 (⟨#[104, 105, 103, 104, 119, 97, 121]⟩ : ByteArray) (⟨#[109, 111, 116, 111, 114, 119, 97, 121]⟩ : ByteArray) false _ ?side1 ?side2 A2.out).mono ?_); (case side1 => repeat (first | exact HR0.out | (with_reducible refine Kd.C_alloc ?_ _) | (with_reducible refine Kd.C_drewN ?_ _) | (with_reducible refine Kd.C_drew ?_))); (case side2 => exact HC0.out); rintro e w' ⟨rfl, ⟨nd, rfl⟩⟩; refine ⟨_, rfl, ?_⟩) | ((with_reducible refine gate_callee (f := 27) rfl ?_); refine goesL_ (some 6) rfl rfl Try.func27 (by kernel_rfl) rfl #[.slice A0 l0.length c0, .string (⟨#[104, 105, 103, 104, 119, 97, 121]⟩ : ByteArray), .string (⟨#[112, 114, 105, 109, 97, 114, 121]⟩ : ByteArray)] rfl (by (try simp only [List.map_toArray, List.map_cons, List.map_nil]); first | done | rfl | (simp only [List.length_drop, List.length_take]; rfl)) ?_; (with_reducible refine (mapmakerref18_is.calls k _ _ l0 (⟨#[104, 105, 103, 104, 119, 97, 121]⟩ : ByteArray) (⟨#[112, 114, 105, 109, 97, 114, 121]⟩ : ByteArray) true _ ?side1 ?side2 A4.out).mono ?_); (case side1 => repeat (first | exact HR0.out | (with_reducible refine Kd.C_alloc ?_ _) | (with_reducible refine Kd.C_drewN ?_ _) | (with_reducible refine Kd.C_drew ?_))); (case side2 => exact HC0.out); rintro e w' ⟨rfl, ⟨nd, rfl⟩⟩; refine ⟨_, rfl, ?_⟩))
      go_ret
      exact ⟨by first | rfl | (simp; done) | (simp [*]; done), by repeat (first | exact Drawn0.refl _ | apply Drawn0.step)⟩
    · replace c5 := Bool.eq_false_iff.mpr c5
      subst c5
      have H1 : ((mapmakerref18_is.f k l0 (⟨#[104, 105, 103, 104, 119, 97, 121]⟩ : ByteArray) (⟨#[115, 101, 99, 111, 110, 100, 97, 114, 121]⟩ : ByteArray)).bind fun t163 => (if t163 = true then (some 3) else ((mapmakerref18_is.f k l0 (⟨#[104, 105, 103, 104, 119, 97, 121]⟩ : ByteArray) (⟨#[114, 101, 115, 105, 100, 101, 110, 116, 105, 97, 108]⟩ : ByteArray)).bind fun t164 => (if t164 = true then (some 4) else ((mapmakerref18_is.f k l0 (⟨#[104, 105, 103, 104, 119, 97, 121]⟩ : ByteArray) (⟨#[116, 114, 97, 99, 107]⟩ : ByteArray)).bind fun t165 => (if t165 = true then (some 5) else ((mapmakerref18_has.f k l0 (⟨#[104, 105, 103, 104, 119, 97, 121]⟩ : ByteArray)).bind fun t166 => (if t166 = true then (some 0) else ((mapmakerref18_is.f k l0 (⟨#[114, 111, 117, 116, 101]⟩ : ByteArray) (⟨#[102, 101, 114, 114, 121]⟩ : ByteArray)).bind fun t167 => (if t167 = true then (some 6) else (some 0))))))))))) = some r := by rw [if_neg (show ¬ (false = true) by decide)] at H; exact H
      clear H
      have H := H1
      clear H1
      replace H := Option.bind_eq_some_iff.mp H
      obtain ⟨t163, A60, H⟩ := H
      replace H : (if t163 = true then (some 3) else ((mapmakerref18_is.f k l0 (⟨#[104, 105, 103, 104, 119, 97, 121]⟩ : ByteArray) (⟨#[114, 101, 115, 105, 100, 101, 110, 116, 105, 97, 108]⟩ : ByteArray)).bind fun t164 => (if t164 = true then (some 4) else ((mapmakerref18_is.f k l0 (⟨#[104, 105, 103, 104, 119, 97, 121]⟩ : ByteArray) (⟨#[116, 114, 97, 99, 107]⟩ : ByteArray)).bind fun t165 => (if t165 = true then (some 5) else ((mapmakerref18_has.f k l0 (⟨#[104, 105, 103, 104, 119, 97, 121]⟩ : ByteArray)).bind fun t166 => (if t166 = true then (some 0) else ((mapmakerref18_is.f k l0 (⟨#[114, 111, 117, 116, 101]⟩ : ByteArray) (⟨#[102, 101, 114, 114, 121]⟩ : ByteArray)).bind fun t167 => (if t167 = true then (some 6) else (some 0)))))))))) = some r := H
      have A6 := Aside0.mk A60
      clear A60
      by_cases c7 : t163 = true
      · subst c7
        have H1 : (some 3) = some r := by rw [if_pos rfl] at H; exact H
        clear H
        have H := H1
        clear H1
        obtain rfl := Option.some.inj H
        go_enter Try.func16, Try.ntmps16
        go_wp2_with (first | ((with_reducible refine gate_callee (f := 27) rfl ?_); refine goesL_ (some 4) rfl rfl Try.func27 (by kernel_rfl) rfl #[.slice A0 l0.length c0, .string (⟨#[104, 105, 103, 104, 119, 97, 121]⟩ : ByteArray), .string (⟨#[109, 111, 116, 111, 114, 119, 97, 121]⟩ : ByteArray)] rfl (by (try simp only [List.map_toArray, List.map_cons, List.map_nil]); first | done | rfl | (simp only [List.length_drop, List.length_take]; rfl)) ?_; (with_reducible refine (mapmakerref18_is.calls k _ _ l0 (⟨#[104, 105, 103, 104, 119, 97, 121]⟩ : ByteArray) (⟨#[109, 111, 116, 111, 114, 119, 97, 121]⟩ : ByteArray) false _ ?side1 ?side2 A2.out).mono ?_); (case side1 => repeat (first | exact HR0.out | (with_reducible refine Kd.C_alloc ?_ _) | (with_reducible refine Kd.C_drewN ?_ _) | (with_reducible refine Kd.C_drew ?_))); (case side2 => exact HC0.out); rintro e w' ⟨rfl, ⟨nd, rfl⟩⟩; refine ⟨_, rfl, ?_⟩) | ((with_reducible refine gate_callee (f := 27) rfl ?_); refine goesL_ (some 6) rfl rfl Try.func27 (by kernel_rfl) rfl #[.slice A0 l0.length c0, .string (⟨#[104, 105, 103, 104, 119, 97, 121]⟩ : ByteArray), .string (⟨#[112, 114, 105, 109, 97, 114, 121]⟩ : ByteArray)] rfl (by (try simp only [List.map_toArray, List.map_cons, List.map_nil]); first | done | rfl | (simp only [List.length_drop, List.length_take]; rfl)) ?_; (with_reducible refine (mapmakerref18_is.calls k _ _ l0 (⟨#[104, 105, 103, 104, 119, 97, 121]⟩ : ByteArray) (⟨#[112, 114, 105, 109, 97, 114, 121]⟩ : ByteArray) false _ ?side1 ?side2 A4.out).mono ?_); (case side1 => repeat (first | exact HR0.out | (with_reducible refine Kd.C_alloc ?_ _) | (with_reducible refine Kd.C_drewN ?_ _) | (with_reducible refine Kd.C_drew ?_))); (case side2 => exact HC0.out); rintro e w' ⟨rfl, ⟨nd, rfl⟩⟩; refine ⟨_, rfl, ?_⟩) | ((with_reducible refine gate_callee (f := 27) rfl ?_); refine goesL_ (some 8) rfl rfl Try.func27 (by kernel_rfl) rfl #[.slice A0 l0.length c0, .string (⟨#[104, 105, 103, 104, 119, 97, 121]⟩ : ByteArray), .string (⟨#[115, 101, 99, 111, 110, 100, 97, 114, 121]⟩ : ByteArray)] rfl (by (try simp only [List.map_toArray, List.map_cons, List.map_nil]); first | done | rfl | (simp only [List.length_drop, List.length_take]; rfl)) ?_; (with_reducible refine (mapmakerref18_is.calls k _ _ l0 (⟨#[104, 105, 103, 104, 119, 97, 121]⟩ : ByteArray) (⟨#[115, 101, 99, 111, 110, 100, 97, 114, 121]⟩ : ByteArray) true _ ?side1 ?side2 A6.out).mono ?_); (case side1 => repeat (first | exact HR0.out | (with_reducible refine Kd.C_alloc ?_ _) | (with_reducible refine Kd.C_drewN ?_ _) | (with_reducible refine Kd.C_drew ?_))); (case side2 => exact HC0.out); rintro e w' ⟨rfl, ⟨nd, rfl⟩⟩; refine ⟨_, rfl, ?_⟩))
        go_ret
        exact ⟨by first | rfl | (simp; done) | (simp [*]; done), by repeat (first | exact Drawn0.refl _ | apply Drawn0.step)⟩
      · replace c7 := Bool.eq_false_iff.mpr c7
        subst c7
        have H1 : ((mapmakerref18_is.f k l0 (⟨#[104, 105, 103, 104, 119, 97, 121]⟩ : ByteArray) (⟨#[114, 101, 115, 105, 100, 101, 110, 116, 105, 97, 108]⟩ : ByteArray)).bind fun t164 => (if t164 = true then (some 4) else ((mapmakerref18_is.f k l0 (⟨#[104, 105, 103, 104, 119, 97, 121]⟩ : ByteArray) (⟨#[116, 114, 97, 99, 107]⟩ : ByteArray)).bind fun t165 => (if t165 = true then (some 5) else ((mapmakerref18_has.f k l0 (⟨#[104, 105, 103, 104, 119, 97, 121]⟩ : ByteArray)).bind fun t166 => (if t166 = true then (some 0) else ((mapmakerref18_is.f k l0 (⟨#[114, 111, 117, 116, 101]⟩ : ByteArray) (⟨#[102, 101, 114, 114, 121]⟩ : ByteArray)).bind fun t167 => (if t167 = true then (some 6) else (some 0))))))))) = some r := by rw [if_neg (show ¬ (false = true) by decide)] at H; exact H
        clear H
        have H := H1
        clear H1
        replace H := Option.bind_eq_some_iff.mp H
        obtain ⟨t164, A80, H⟩ := H
        replace H : (if t164 = true then (some 4) else ((mapmakerref18_is.f k l0 (⟨#[104, 105, 103, 104, 119, 97, 121]⟩ : ByteArray) (⟨#[116, 114, 97, 99, 107]⟩ : ByteArray)).bind fun t165 => (if t165 = true then (some 5) else ((mapmakerref18_has.f k l0 (⟨#[104, 105, 103, 104, 119, 97, 121]⟩ : ByteArray)).bind fun t166 => (if t166 = true then (some 0) else ((mapmakerref18_is.f k l0 (⟨#[114, 111, 117, 116, 101]⟩ : ByteArray) (⟨#[102, 101, 114, 114, 121]⟩ : ByteArray)).bind fun t167 => (if t167 = true then (some 6) else (some 0)))))))) = some r := H
        have A8 := Aside0.mk A80
        clear A80
        by_cases c9 : t164 = true
        · subst c9
          have H1 : (some 4) = some r := by rw [if_pos rfl] at H; exact H
          clear H
          have H := H1
          clear H1
          obtain rfl := Option.some.inj H
          go_enter Try.func16, Try.ntmps16
          go_wp2_with (first | ((with_reducible refine gate_callee (f := 27) rfl ?_); refine goesL_ (some 4) rfl rfl Try.func27 (by kernel_rfl) rfl #[.slice A0 l0.length c0, .string (⟨#[104, 105, 103, 104, 119, 97, 121]⟩ : ByteArray), .string (⟨#[109, 111, 116, 111, 114, 119, 97, 121]⟩ : ByteArray)] rfl (by (try simp only [List.map_toArray, List.map_cons, List.map_nil]); first | done | rfl | (simp only [List.length_drop, List.length_take]; rfl)) ?_; (with_reducible refine (mapmakerref18_is.calls k _ _ l0 (⟨#[104, 105, 103, 104, 119, 97, 121]⟩ : ByteArray) (⟨#[109, 111, 116, 111, 114, 119, 97, 121]⟩ : ByteArray) false _ ?side1 ?side2 A2.out).mono ?_); (case side1 => repeat (first | exact HR0.out | (with_reducible refine Kd.C_alloc ?_ _) | (with_reducible refine Kd.C_drewN ?_ _) | (with_reducible refine Kd.C_drew ?_))); (case side2 => exact HC0.out); rintro e w' ⟨rfl, ⟨nd, rfl⟩⟩; refine ⟨_, rfl, ?_⟩) | ((with_reducible refine gate_callee (f := 27) rfl ?_); refine goesL_ (some 6) rfl rfl Try.func27 (by kernel_rfl) rfl #[.slice A0 l0.length c0, .string (⟨#[104, 105, 103, 104, 119, 97, 121]⟩ : ByteArray), .string (⟨#[112, 114, 105, 109, 97, 114, 121]⟩ : ByteArray)] rfl (by (try simp only [List.map_toArray, List.map_cons, List.map_nil]); first | done | rfl | (simp only [List.length_drop, List.length_take]; rfl)) ?_; (with_reducible refine (mapmakerref18_is.calls k _ _ l0 (⟨#[104, 105, 103, 104, 119, 97, 121]⟩ : ByteArray) (⟨#[112, 114, 105, 109, 97, 114, 121]⟩ : ByteArray) false _ ?side1 ?side2 A4.out).mono ?_); (case side1 => repeat (first | exact HR0.out | (with_reducible refine Kd.C_alloc ?_ _) | (with_reducible refine Kd.C_drewN ?_ _) | (with_reducible refine Kd.C_drew ?_))); (case side2 => exact HC0.out); rintro e w' ⟨rfl, ⟨nd, rfl⟩⟩; refine ⟨_, rfl, ?_⟩) | ((with_reducible refine gate_callee (f := 27) rfl ?_); refine goesL_ (some 8) rfl rfl Try.func27 (by kernel_rfl) rfl #[.slice A0 l0.length c0, .string (⟨#[104, 105, 103, 104, 119, 97, 121]⟩ : ByteArray), .string (⟨#[115, 101, 99, 111, 110, 100, 97, 114, 121]⟩ : ByteArray)] rfl (by (try simp only [List.map_toArray, List.map_cons, List.map_nil]); first | done | rfl | (simp only [List.length_drop, List.length_take]; rfl)) ?_; (with_reducible refine (mapmakerref18_is.calls k _ _ l0 (⟨#[104, 105, 103, 104, 119, 97, 121]⟩ : ByteArray) (⟨#[115, 101, 99, 111, 110, 100, 97, 114, 121]⟩ : ByteArray) false _ ?side1 ?side2 A6.out).mono ?_); (case side1 => repeat (first | exact HR0.out | (with_reducible refine Kd.C_alloc ?_ _) | (with_reducible refine Kd.C_drewN ?_ _) | (with_reducible refine Kd.C_drew ?_))); (case side2 => exact HC0.out); rintro e w' ⟨rfl, ⟨nd, rfl⟩⟩; refine ⟨_, rfl, ?_⟩) | ((with_reducible refine gate_callee (f := 27) rfl ?_); refine goesL_ (some 10) rfl rfl Try.func27 (by kernel_rfl) rfl #[.slice A0 l0.length c0, .string (⟨#[104, 105, 103, 104, 119, 97, 121]⟩ : ByteArray), .string (⟨#[114, 101, 115, 105, 100, 101, 110, 116, 105, 97, 108]⟩ : ByteArray)] rfl (by (try simp only [List.map_toArray, List.map_cons, List.map_nil]); first | done | rfl | (simp only [List.length_drop, List.length_take]; rfl)) ?_; (with_reducible refine (mapmakerref18_is.calls k _ _ l0 (⟨#[104, 105, 103, 104, 119, 97, 121]⟩ : ByteArray) (⟨#[114, 101, 115, 105, 100, 101, 110, 116, 105, 97, 108]⟩ : ByteArray) true _ ?side1 ?side2 A8.out).mono ?_); (case side1 => repeat (first | exact HR0.out | (with_reducible refine Kd.C_alloc ?_ _) | (with_reducible refine Kd.C_drewN ?_ _) | (with_reducible refine Kd.C_drew ?_))); (case side2 => exact HC0.out); rintro e w' ⟨rfl, ⟨nd, rfl⟩⟩; refine ⟨_, rfl, ?_⟩))
          go_ret
          exact ⟨by first | rfl | (simp; done) | (simp [*]; done), by repeat (first | exact Drawn0.refl _ | apply Drawn0.step)⟩
        · replace c9 := Bool.eq_false_iff.mpr c9
          subst c9
          have H1 : ((mapmakerref18_is.f k l0 (⟨#[104, 105, 103, 104, 119, 97, 121]⟩ : ByteArray) (⟨#[116, 114, 97, 99, 107]⟩ : ByteArray)).bind fun t165 => (if t165 = true then (some 5) else ((mapmakerref18_has.f k l0 (⟨#[104, 105, 103, 104, 119, 97, 121]⟩ : ByteArray)).bind fun t166 => (if t166 = true then (some 0) else ((mapmakerref18_is.f k l0 (⟨#[114, 111, 117, 116, 101]⟩ : ByteArray) (⟨#[102, 101, 114, 114, 121]⟩ : ByteArray)).bind fun t167 => (if t167 = true then (some 6) else (some 0))))))) = some r := by rw [if_neg (show ¬ (false = true) by decide)] at H; exact H
          clear H
          have H := H1
          clear H1
          replace H := Option.bind_eq_some_iff.mp H
          obtain ⟨t165, A100, H⟩ := H
          replace H : (if t165 = true then (some 5) else ((mapmakerref18_has.f k l0 (⟨#[104, 105, 103, 104, 119, 97, 121]⟩ : ByteArray)).bind fun t166 => (if t166 = true then (some 0) else ((mapmakerref18_is.f k l0 (⟨#[114, 111, 117, 116, 101]⟩ : ByteArray) (⟨#[102, 101, 114, 114, 121]⟩ : ByteArray)).bind fun t167 => (if t167 = true then (some 6) else (some 0)))))) = some r := H
          have A10 := Aside0.mk A100
          clear A100
          by_cases c11 : t165 = true
          · subst c11
            have H1 : (some 5) = some r := by rw [if_pos rfl] at H; exact H
            clear H
            have H := H1
            clear H1
            obtain rfl := Option.some.inj H
            go_enter Try.func16, Try.ntmps16
            go_wp2_with (first | ((with_reducible refine gate_callee (f := 27) rfl ?_); refine goesL_ (some 4) rfl rfl Try.func27 (by kernel_rfl) rfl #[.slice A0 l0.length c0, .string (⟨#[104, 105, 103, 104, 119, 97, 121]⟩ : ByteArray), .string (⟨#[109, 111, 116, 111, 114, 119, 97, 121]⟩ : ByteArray)] rfl (by (try simp only [List.map_toArray, List.map_cons, List.map_nil]); first | done | rfl | (simp only [List.length_drop, List.length_take]; rfl)) ?_; (with_reducible refine (mapmakerref18_is.calls k _ _ l0 (⟨#[104, 105, 103, 104, 119, 97, 121]⟩ : ByteArray) (⟨#[109, 111, 116, 111, 114, 119, 97, 121]⟩ : ByteArray) false _ ?side1 ?side2 A2.out).mono ?_); (case side1 => repeat (first | exact HR0.out | (with_reducible refine Kd.C_alloc ?_ _) | (with_reducible refine Kd.C_drewN ?_ _) | (with_reducible refine Kd.C_drew ?_))); (case side2 => exact HC0.out); rintro e w' ⟨rfl, ⟨nd, rfl⟩⟩; refine ⟨_, rfl, ?_⟩) | ((with_reducible refine gate_callee (f := 27) rfl ?_); refine goesL_ (some 6) rfl rfl Try.func27 (by kernel_rfl) rfl #[.slice A0 l0.length c0, .string (⟨#[104, 105, 103, 104, 119, 97, 121]⟩ : ByteArray), .string (⟨#[112, 114, 105, 109, 97, 114, 121]⟩ : ByteArray)] rfl (by (try simp only [List.map_toArray, List.map_cons, List.map_nil]); first | done | rfl | (simp only [List.length_drop, List.length_take]; rfl)) ?_; (with_reducible refine (mapmakerref18_is.calls k _ _ l0 (⟨#[104, 105, 103, 104, 119, 97, 121]⟩ : ByteArray) (⟨#[112, 114, 105, 109, 97, 114, 121]⟩ : ByteArray) false _ ?side1 ?side2 A4.out).mono ?_); (case side1 => repeat (first | exact HR0.out | (with_reducible refine Kd.C_alloc ?_ _) | (with_reducible refine Kd.C_drewN ?_ _) | (with_reducible refine Kd.C_drew ?_))); (case side2 => exact HC0.out); rintro e w' ⟨rfl, ⟨nd, rfl⟩⟩; refine ⟨_, rfl, ?_⟩) | ((with_reducible refine gate_callee (f := 27) rfl ?_); refine goesL_ (some 8) rfl rfl Try.func27 (by kernel_rfl) rfl #[.slice A0 l0.length c0, .string (⟨#[104, 105, 103, 104, 119, 97, 121]⟩ : ByteArray), .string (⟨#[115, 101, 99, 111, 110, 100, 97, 114, 121]⟩ : ByteArray)] rfl (by (try simp only [List.map_toArray, List.map_cons, List.map_nil]); first | done | rfl | (simp only [List.length_drop, List.length_take]; rfl)) ?_; (with_reducible refine (mapmakerref18_is.calls k _ _ l0 (⟨#[104, 105, 103, 104, 119, 97, 121]⟩ : ByteArray) (⟨#[115, 101, 99, 111, 110, 100, 97, 114, 121]⟩ : ByteArray) false _ ?side1 ?side2 A6.out).mono ?_); (case side1 => repeat (first | exact HR0.out | (with_reducible refine Kd.C_alloc ?_ _) | (with_reducible refine Kd.C_drewN ?_ _) | (with_reducible refine Kd.C_drew ?_))); (case side2 => exact HC0.out); rintro e w' ⟨rfl, ⟨nd, rfl⟩⟩; refine ⟨_, rfl, ?_⟩) | ((with_reducible refine gate_callee (f := 27) rfl ?_); refine goesL_ (some 10) rfl rfl Try.func27 (by kernel_rfl) rfl #[.slice A0 l0.length c0, .string (⟨#[104, 105, 103, 104, 119, 97, 121]⟩ : ByteArray), .string (⟨#[114, 101, 115, 105, 100, 101, 110, 116, 105, 97, 108]⟩ : ByteArray)] rfl (by (try simp only [List.map_toArray, List.map_cons, List.map_nil]); first | done | rfl | (simp only [List.length_drop, List.length_take]; rfl)) ?_; (with_reducible refine (mapmakerref18_is.calls k _ _ l0 (⟨#[104, 105, 103, 104, 119, 97, 121]⟩ : ByteArray) (⟨#[114, 101, 115, 105, 100, 101, 110, 116, 105, 97, 108]⟩ : ByteArray) false _ ?side1 ?side2 A8.out).mono ?_); (case side1 => repeat (first | exact HR0.out | (with_reducible refine Kd.C_alloc ?_ _) | (with_reducible refine Kd.C_drewN ?_ _) | (with_reducible refine Kd.C_drew ?_))); (case side2 => exact HC0.out); rintro e w' ⟨rfl, ⟨nd, rfl⟩⟩; refine ⟨_, rfl, ?_⟩) | ((with_reducible refine gate_callee (f := 27) rfl ?_); refine goesL_ (some 12) rfl rfl Try.func27 (by kernel_rfl) rfl #[.slice A0 l0.length c0, .string (⟨#[104, 105, 103, 104, 119, 97, 121]⟩ : ByteArray), .string (⟨#[116, 114, 97, 99, 107]⟩ : ByteArray)] rfl (by (try simp only [List.map_toArray, List.map_cons, List.map_nil]); first | done | rfl | (simp only [List.length_drop, List.length_take]; rfl)) ?_; (with_reducible refine (mapmakerref18_is.calls k _ _ l0 (⟨#[104, 105, 103, 104, 119, 97, 121]⟩ : ByteArray) (⟨#[116, 114, 97, 99, 107]⟩ : ByteArray) true _ ?side1 ?side2 A10.out).mono ?_); (case side1 => repeat (first | exact HR0.out | (with_reducible refine Kd.C_alloc ?_ _) | (with_reducible refine Kd.C_drewN ?_ _) | (with_reducible refine Kd.C_drew ?_))); (case side2 => exact HC0.out); rintro e w' ⟨rfl, ⟨nd, rfl⟩⟩; refine ⟨_, rfl, ?_⟩))
            go_ret
            exact ⟨by first | rfl | (simp; done) | (simp [*]; done), by repeat (first | exact Drawn0.refl _ | apply Drawn0.step)⟩
          · replace c11 := Bool.eq_false_iff.mpr c11
            subst c11
            have H1 : ((mapmakerref18_has.f k l0 (⟨#[104, 105, 103, 104, 119, 97, 121]⟩ : ByteArray)).bind fun t166 => (if t166 = true then (some 0) else ((mapmakerref18_is.f k l0 (⟨#[114, 111, 117, 116, 101]⟩ : ByteArray) (⟨#[102, 101, 114, 114, 121]⟩ : ByteArray)).bind fun t167 => (if t167 = true then (some 6) else (some 0))))) = some r := by rw [if_neg (show ¬ (false = true) by decide)] at H; exact H
            clear H
            have H := H1
            clear H1
            replace H := Option.bind_eq_some_iff.mp H
            obtain ⟨t166, A120, H⟩ := H
            replace H : (if t166 = true then (some 0) else ((mapmakerref18_is.f k l0 (⟨#[114, 111, 117, 116, 101]⟩ : ByteArray) (⟨#[102, 101, 114, 114, 121]⟩ : ByteArray)).bind fun t167 => (if t167 = true then (some 6) else (some 0)))) = some r := H
            have A12 := Aside0.mk A120
            clear A120
            by_cases c13 : t166 = true
            · subst c13
              have H1 : (some 0) = some r := by rw [if_pos rfl] at H; exact H
              clear H
              have H := H1
              clear H1
              obtain rfl := Option.some.inj H
              go_enter Try.func16, Try.ntmps16
              go_wp2_with (first | ((with_reducible refine gate_callee (f := 27) rfl ?_); refine goesL_ (some 4) rfl rfl Try.func27 (by kernel_rfl) rfl #[.slice A0 l0.length c0, .string (⟨#[104, 105, 103, 104, 119, 97, 121]⟩ : ByteArray), .string (⟨#[109, 111, 116, 111, 114, 119, 97, 121]⟩ : ByteArray)] rfl (by (try simp only [List.map_toArray, List.map_cons, List.map_nil]); first | done | rfl | (simp only [List.length_drop, List.length_take]; rfl)) ?_; (with_reducible refine (mapmakerref18_is.calls k _ _ l0 (⟨#[104, 105, 103, 104, 119, 97, 121]⟩ : ByteArray) (⟨#[109, 111, 116, 111, 114, 119, 97, 121]⟩ : ByteArray) false _ ?side1 ?side2 A2.out).mono ?_); (case side1 => repeat (first | exact HR0.out | (with_reducible refine Kd.C_alloc ?_ _) | (with_reducible refine Kd.C_drewN ?_ _) | (with_reducible refine Kd.C_drew ?_))); (case side2 => exact HC0.out); rintro e w' ⟨rfl, ⟨nd, rfl⟩⟩; refine ⟨_, rfl, ?_⟩) | ((with_reducible refine gate_callee (f := 27) rfl ?_); refine goesL_ (some 6) rfl rfl Try.func27 (by kernel_rfl) rfl #[.slice A0 l0.length c0, .string (⟨#[104, 105, 103, 104, 119, 97, 121]⟩ : ByteArray), .string (⟨#[112, 114, 105, 109, 97, 114, 121]⟩ : ByteArray)] rfl (by (try simp only [List.map_toArray, List.map_cons, List.map_nil]); first | done | rfl | (simp only [List.length_drop, List.length_take]; rfl)) ?_; (with_reducible refine (mapmakerref18_is.calls k _ _ l0 (⟨#[104, 105, 103, 104, 119, 97, 121]⟩ : ByteArray) (⟨#[112, 114, 105, 109, 97, 114, 121]⟩ : ByteArray) false _ ?side1 ?side2 A4.out).mono ?_); (case side1 => repeat (first | exact HR0.out | (with_reducible refine Kd.C_alloc ?_ _) | (with_reducible refine Kd.C_drewN ?_ _) | (with_reducible refine Kd.C_drew ?_))); (case side2 => exact HC0.out); rintro e w' ⟨rfl, ⟨nd, rfl⟩⟩; refine ⟨_, rfl, ?_⟩) | ((with_reducible refine gate_callee (f := 27) rfl ?_); refine goesL_ (some 8) rfl rfl Try.func27 (by kernel_rfl) rfl #[.slice A0 l0.length c0, .string (⟨#[104, 105, 103, 104, 119, 97, 121]⟩ : ByteArray), .string (⟨#[115, 101, 99, 111, 110, 100, 97, 114, 121]⟩ : ByteArray)] rfl (by (try simp only [List.map_toArray, List.map_cons, List.map_nil]); first | done | rfl | (simp only [List.length_drop, List.length_take]; rfl)) ?_; (with_reducible refine (mapmakerref18_is.calls k _ _ l0 (⟨#[104, 105, 103, 104, 119, 97, 121]⟩ : ByteArray) (⟨#[115, 101, 99, 111, 110, 100, 97, 114, 121]⟩ : ByteArray) false _ ?side1 ?side2 A6.out).mono ?_); (case side1 => repeat (first | exact HR0.out | (with_reducible refine Kd.C_alloc ?_ _) | (with_reducible refine Kd.C_drewN ?_ _) | (with_reducible refine Kd.C_drew ?_))); (case side2 => exact HC0.out); rintro e w' ⟨rfl, ⟨nd, rfl⟩⟩; refine ⟨_, rfl, ?_⟩) | ((with_reducible refine gate_callee (f := 27) rfl ?_); refine goesL_ (some 10) rfl rfl Try.func27 (by kernel_rfl) rfl #[.slice A0 l0.length c0, .string (⟨#[104, 105, 103, 104, 119, 97, 121]⟩ : ByteArray), .string (⟨#[114, 101, 115, 105, 100, 101, 110, 116, 105, 97, 108]⟩ : ByteArray)] rfl (by (try simp only [List.map_toArray, List.map_cons, List.map_nil]); first | done | rfl | (simp only [List.length_drop, List.length_take]; rfl)) ?_; (with_reducible refine (mapmakerref18_is.calls k _ _ l0 (⟨#[104, 105, 103, 104, 119, 97, 121]⟩ : ByteArray) (⟨#[114, 101, 115, 105, 100, 101, 110, 116, 105, 97, 108]⟩ : ByteArray) false _ ?side1 ?side2 A8.out).mono ?_); (case side1 => repeat (first | exact HR0.out | (with_reducible refine Kd.C_alloc ?_ _) | (with_reducible refine Kd.C_drewN ?_ _) | (with_reducible refine Kd.C_drew ?_))); (case side2 => exact HC0.out); rintro e w' ⟨rfl, ⟨nd, rfl⟩⟩; refine ⟨_, rfl, ?_⟩) | ((with_reducible refine gate_callee (f := 27) rfl ?_); refine goesL_ (some 12) rfl rfl Try.func27 (by kernel_rfl) rfl #[.slice A0 l0.length c0, .string (⟨#[104, 105, 103, 104, 119, 97, 121]⟩ : ByteArray), .string (⟨#[116, 114, 97, 99, 107]⟩ : ByteArray)] rfl (by (try simp only [List.map_toArray, List.map_cons, List.map_nil]); first | done | rfl | (simp only [List.length_drop, List.length_take]; rfl)) ?_; (with_reducible refine (mapmakerref18_is.calls k _ _ l0 (⟨#[104, 105, 103, 104, 119, 97, 121]⟩ : ByteArray) (⟨#[116, 114, 97, 99, 107]⟩ : ByteArray) false _ ?side1 ?side2 A10.out).mono ?_); (case side1 => repeat (first | exact HR0.out | (with_reducible refine Kd.C_alloc ?_ _) | (with_reducible refine Kd.C_drewN ?_ _) | (with_reducible refine Kd.C_drew ?_))); (case side2 => exact HC0.out); rintro e w' ⟨rfl, ⟨nd, rfl⟩⟩; refine ⟨_, rfl, ?_⟩) | ((with_reducible refine gate_callee (f := 28) rfl ?_); refine goesL_ (some 14) rfl rfl Try.func28 (by kernel_rfl) rfl #[.slice A0 l0.length c0, .string (⟨#[104, 105, 103, 104, 119, 97, 121]⟩ : ByteArray)] rfl (by (try simp only [List.map_toArray, List.map_cons, List.map_nil]); first | done | rfl | (simp only [List.length_drop, List.length_take]; rfl)) ?_; (with_reducible refine (mapmakerref18_has.calls k _ _ l0 (⟨#[104, 105, 103, 104, 119, 97, 121]⟩ : ByteArray) true _ ?side1 ?side2 A12.out).mono ?_); (case side1 => repeat (first | exact HR0.out | (with_reducible refine Kd.C_alloc ?_ _) | (with_reducible refine Kd.C_drewN ?_ _) | (with_reducible refine Kd.C_drew ?_))); (case side2 => exact HC0.out); rintro e w' ⟨rfl, ⟨nd, rfl⟩⟩; refine ⟨_, rfl, ?_⟩))
              go_ret
              exact ⟨by first | rfl | (simp; done) | (simp [*]; done), by repeat (first | exact Drawn0.refl _ | apply Drawn0.step)⟩
            · replace c13 := Bool.eq_false_iff.mpr c13
              subst c13
              have H1 : ((mapmakerref18_is.f k l0 (⟨#[114, 111, 117, 116, 101]⟩ : ByteArray) (⟨#[102, 101, 114, 114, 121]⟩ : ByteArray)).bind fun t167 => (if t167 = true then (some 6) else (some 0))) = some r := by rw [if_neg (show ¬ (false = true) by decide)] at H; exact H
              clear H
              have H := H1
              clear H1
              replace H := Option.bind_eq_some_iff.mp H
              obtain ⟨t167, A140, H⟩ := H
              replace H : (if t167 = true then (some 6) else (some 0)) = some r := H
              have A14 := Aside0.mk A140
              clear A140
              by_cases c15 : t167 = true
              · subst c15
                have H1 : (some 6) = some r := by rw [if_pos rfl] at H; exact H
                clear H
                have H := H1
                clear H1
                obtain rfl := Option.some.inj H
                go_enter Try.func16, Try.ntmps16
                go_wp2_with (first | ((with_reducible refine gate_callee (f := 27) rfl ?_); refine goesL_ (some 4) rfl rfl Try.func27 (by kernel_rfl) rfl #[.slice A0 l0.length c0, .string (⟨#[104, 105, 103, 104, 119, 97, 121]⟩ : ByteArray), .string (⟨#[109, 111, 116, 111, 114, 119, 97, 121]⟩ : ByteArray)] rfl (by (try simp only [List.map_toArray, List.map_cons, List.map_nil]); first | done | rfl | (simp only [List.length_drop, List.length_take]; rfl)) ?_; (with_reducible refine (mapmakerref18_is.calls k _ _ l0 (⟨#[104, 105, 103, 104, 119, 97, 121]⟩ : ByteArray) (⟨#[109, 111, 116, 111, 114, 119, 97, 121]⟩ : ByteArray) false _ ?side1 ?side2 A2.out).mono ?_); (case side1 => repeat (first | exact HR0.out | (with_reducible refine Kd.C_alloc ?_ _) | (with_reducible refine Kd.C_drewN ?_ _) | (with_reducible refine Kd.C_drew ?_))); (case side2 => exact HC0.out); rintro e w' ⟨rfl, ⟨nd, rfl⟩⟩; refine ⟨_, rfl, ?_⟩) | ((with_reducible refine gate_callee (f := 27) rfl ?_); refine goesL_ (some 6) rfl rfl Try.func27 (by kernel_rfl) rfl #[.slice A0 l0.length c0, .string (⟨#[104, 105, 103, 104, 119, 97, 121]⟩ : ByteArray), .string (⟨#[112, 114, 105, 109, 97, 114, 121]⟩ : ByteArray)] rfl (by (try simp only [List.map_toArray, List.map_cons, List.map_nil]); first | done | rfl | (simp only [List.length_drop, List.length_take]; rfl)) ?_; (with_reducible refine (mapmakerref18_is.calls k _ _ l0 (⟨#[104, 105, 103, 104, 119, 97, 121]⟩ : ByteArray) (⟨#[112, 114, 105, 109, 97, 114, 121]⟩ : ByteArray) false _ ?side1 ?side2 A4.out).mono ?_); (case side1 => repeat (first | exact HR0.out | (with_reducible refine Kd.C_alloc ?_ _) | (with_reducible refine Kd.C_drewN ?_ _) | (with_reducible refine Kd.C_drew ?_))); (case side2 => exact HC0.out); rintro e w' ⟨rfl, ⟨nd, rfl⟩⟩; refine ⟨_, rfl, ?_⟩) | ((with_reducible refine gate_callee (f := 27) rfl ?_); refine goesL_ (some 8) rfl rfl Try.func27 (by kernel_rfl) rfl #[.slice A0 l0.length c0, .string (⟨#[104, 105, 103, 104, 119, 97, 121]⟩ : ByteArray), .string (⟨#[115, 101, 99, 111, 110, 100, 97, 114, 121]⟩ : ByteArray)] rfl (by (try simp only [List.map_toArray, List.map_cons, List.map_nil]); first | done | rfl | (simp only [List.length_drop, List.length_take]; rfl)) ?_; (with_reducible refine (mapmakerref18_is.calls k _ _ l0 (⟨#[104, 105, 103, 104, 119, 97, 121]⟩ : ByteArray) (⟨#[115, 101, 99, 111, 110, 100, 97, 114, 121]⟩ : ByteArray) false _ ?side1 ?side2 A6.out).mono ?_); (case side1 => repeat (first | exact HR0.out | (with_reducible refine Kd.C_alloc ?_ _) | (with_reducible refine Kd.C_drewN ?_ _) | (with_reducible refine Kd.C_drew ?_))); (case side2 => exact HC0.out); rintro e w' ⟨rfl, ⟨nd, rfl⟩⟩; refine ⟨_, rfl, ?_⟩) | ((with_reducible refine gate_callee (f := 27) rfl ?_); refine goesL_ (some 10) rfl rfl Try.func27 (by kernel_rfl) rfl #[.slice A0 l0.length c0, .string (⟨#[104, 105, 103, 104, 119, 97, 121]⟩ : ByteArray), .string (⟨#[114, 101, 115, 105, 100, 101, 110, 116, 105, 97, 108]⟩ : ByteArray)] rfl (by (try simp only [List.map_toArray, List.map_cons, List.map_nil]); first | done | rfl | (simp only [List.length_drop, List.length_take]; rfl)) ?_; (with_reducible refine (mapmakerref18_is.calls k _ _ l0 (⟨#[104, 105, 103, 104, 119, 97, 121]⟩ : ByteArray) (⟨#[114, 101, 115, 105, 100, 101, 110, 116, 105, 97, 108]⟩ : ByteArray) false _ ?side1 ?side2 A8.out).mono ?_); (case side1 => repeat (first | exact HR0.out | (with_reducible refine Kd.C_alloc ?_ _) | (with_reducible refine Kd.C_drewN ?_ _) | (with_reducible refine Kd.C_drew ?_))); (case side2 => exact HC0.out); rintro e w' ⟨rfl, ⟨nd, rfl⟩⟩; refine ⟨_, rfl, ?_⟩) | ((with_reducible refine gate_callee (f := 27) rfl ?_); refine goesL_ (some 12) rfl rfl Try.func27 (by kernel_rfl) rfl #[.slice A0 l0.length c0, .string (⟨#[104, 105, 103, 104, 119, 97, 121]⟩ : ByteArray), .string (⟨#[116, 114, 97, 99, 107]⟩ : ByteArray)] rfl (by (try simp only [List.map_toArray, List.map_cons, List.map_nil]); first | done | rfl | (simp only [List.length_drop, List.length_take]; rfl)) ?_; (with_reducible refine (mapmakerref18_is.calls k _ _ l0 (⟨#[104, 105, 103, 104, 119, 97, 121]⟩ : ByteArray) (⟨#[116, 114, 97, 99, 107]⟩ : ByteArray) false _ ?side1 ?side2 A10.out).mono ?_); (case side1 => repeat (first | exact HR0.out | (with_reducible refine Kd.C_alloc ?_ _) | (with_reducible refine Kd.C_drewN ?_ _) | (with_reducible refine Kd.C_drew ?_))); (case side2 => exact HC0.out); rintro e w' ⟨rfl, ⟨nd, rfl⟩⟩; refine ⟨_, rfl, ?_⟩) | ((with_reducible refine gate_callee (f := 28) rfl ?_); refine goesL_ (some 14) rfl rfl Try.func28 (by kernel_rfl) rfl #[.slice A0 l0.length c0, .string (⟨#[104, 105, 103, 104, 119, 97, 121]⟩ : ByteArray)] rfl (by (try simp only [List.map_toArray, List.map_cons, List.map_nil]); first | done | rfl | (simp only [List.length_drop, List.length_take]; rfl)) ?_; (with_reducible refine (mapmakerref18_has.calls k _ _ l0 (⟨#[104, 105, 103, 104, 119, 97, 121]⟩ : ByteArray) false _ ?side1 ?side2 A12.out).mono ?_); (case side1 => repeat (first | exact HR0.out | (with_reducible refine Kd.C_alloc ?_ _) | (with_reducible refine Kd.C_drewN ?_ _) | (with_reducible refine Kd.C_drew ?_))); (case side2 => exact HC0.out); rintro e w' ⟨rfl, ⟨nd, rfl⟩⟩; refine ⟨_, rfl, ?_⟩) | (go_at_call 27; (with_reducible refine (mapmakerref18_is.calls k _ _ l0 (⟨#[114, 111, 117, 116, 101]⟩ : ByteArray) (⟨#[102, 101, 114, 114, 121]⟩ : ByteArray) true _ ?side1 ?side2 A14.out).mono ?_); (case side1 => repeat (first | exact HR0.out | (with_reducible refine Kd.C_alloc ?_ _) | (with_reducible refine Kd.C_drewN ?_ _) | (with_reducible refine Kd.C_drew ?_))); (case side2 => exact HC0.out); rintro e w' ⟨rfl, ⟨nd, rfl⟩⟩))
                go_ret
                exact ⟨by first | rfl | (simp; done) | (simp [*]; done), by repeat (first | exact Drawn0.refl _ | apply Drawn0.step)⟩
              · replace c15 := Bool.eq_false_iff.mpr c15
                subst c15
                have H1 : (some 0) = some r := by rw [if_neg (show ¬ (false = true) by decide)] at H; exact H
                clear H
                have H := H1
                clear H1
                obtain rfl := Option.some.inj H
                go_enter Try.func16, Try.ntmps16
                go_wp2_with (first | ((with_reducible refine gate_callee (f := 27) rfl ?_); refine goesL_ (some 4) rfl rfl Try.func27 (by kernel_rfl) rfl #[.slice A0 l0.length c0, .string (⟨#[104, 105, 103, 104, 119, 97, 121]⟩ : ByteArray), .string (⟨#[109, 111, 116, 111, 114, 119, 97, 121]⟩ : ByteArray)] rfl (by (try simp only [List.map_toArray, List.map_cons, List.map_nil]); first | done | rfl | (simp only [List.length_drop, List.length_take]; rfl)) ?_; (with_reducible refine (mapmakerref18_is.calls k _ _ l0 (⟨#[104, 105, 103, 104, 119, 97, 121]⟩ : ByteArray) (⟨#[109, 111, 116, 111, 114, 119, 97, 121]⟩ : ByteArray) false _ ?side1 ?side2 A2.out).mono ?_); (case side1 => repeat (first | exact HR0.out | (with_reducible refine Kd.C_alloc ?_ _) | (with_reducible refine Kd.C_drewN ?_ _) | (with_reducible refine Kd.C_drew ?_))); (case side2 => exact HC0.out); rintro e w' ⟨rfl, ⟨nd, rfl⟩⟩; refine ⟨_, rfl, ?_⟩) | ((with_reducible refine gate_callee (f := 27) rfl ?_); refine goesL_ (some 6) rfl rfl Try.func27 (by kernel_rfl) rfl #[.slice A0 l0.length c0, .string (⟨#[104, 105, 103, 104, 119, 97, 121]⟩ : ByteArray), .string (⟨#[112, 114, 105, 109, 97, 114, 121]⟩ : ByteArray)] rfl (by (try simp only [List.map_toArray, List.map_cons, List.map_nil]); first | done | rfl | (simp only [List.length_drop, List.length_take]; rfl)) ?_; (with_reducible refine (mapmakerref18_is.calls k _ _ l0 (⟨#[104, 105, 103, 104, 119, 97, 121]⟩ : ByteArray) (⟨#[112, 114, 105, 109, 97, 114, 121]⟩ : ByteArray) false _ ?side1 ?side2 A4.out).mono ?_); (case side1 => repeat (first | exact HR0.out | (with_reducible refine Kd.C_alloc ?_ _) | (with_reducible refine Kd.C_drewN ?_ _) | (with_reducible refine Kd.C_drew ?_))); (case side2 => exact HC0.out); rintro e w' ⟨rfl, ⟨nd, rfl⟩⟩; refine ⟨_, rfl, ?_⟩) | ((with_reducible refine gate_callee (f := 27) rfl ?_); refine goesL_ (some 8) rfl rfl Try.func27 (by kernel_rfl) rfl #[.slice A0 l0.length c0, .string (⟨#[104, 105, 103, 104, 119, 97, 121]⟩ : ByteArray), .string (⟨#[115, 101, 99, 111, 110, 100, 97, 114, 121]⟩ : ByteArray)] rfl (by (try simp only [List.map_toArray, List.map_cons, List.map_nil]); first | done | rfl | (simp only [List.length_drop, List.length_take]; rfl)) ?_; (with_reducible refine (mapmakerref18_is.calls k _ _ l0 (⟨#[104, 105, 103, 104, 119, 97, 121]⟩ : ByteArray) (⟨#[115, 101, 99, 111, 110, 100, 97, 114, 121]⟩ : ByteArray) false _ ?side1 ?side2 A6.out).mono ?_); (case side1 => repeat (first | exact HR0.out | (with_reducible refine Kd.C_alloc ?_ _) | (with_reducible refine Kd.C_drewN ?_ _) | (with_reducible refine Kd.C_drew ?_))); (case side2 => exact HC0.out); rintro e w' ⟨rfl, ⟨nd, rfl⟩⟩; refine ⟨_, rfl, ?_⟩) | ((with_reducible refine gate_callee (f := 27) rfl ?_); refine goesL_ (some 10) rfl rfl Try.func27 (by kernel_rfl) rfl #[.slice A0 l0.length c0, .string (⟨#[104, 105, 103, 104, 119, 97, 121]⟩ : ByteArray), .string (⟨#[114, 101, 115, 105, 100, 101, 110, 116, 105, 97, 108]⟩ : ByteArray)] rfl (by (try simp only [List.map_toArray, List.map_cons, List.map_nil]); first | done | rfl | (simp only [List.length_drop, List.length_take]; rfl)) ?_; (with_reducible refine (mapmakerref18_is.calls k _ _ l0 (⟨#[104, 105, 103, 104, 119, 97, 121]⟩ : ByteArray) (⟨#[114, 101, 115, 105, 100, 101, 110, 116, 105, 97, 108]⟩ : ByteArray) false _ ?side1 ?side2 A8.out).mono ?_); (case side1 => repeat (first | exact HR0.out | (with_reducible refine Kd.C_alloc ?_ _) | (with_reducible refine Kd.C_drewN ?_ _) | (with_reducible refine Kd.C_drew ?_))); (case side2 => exact HC0.out); rintro e w' ⟨rfl, ⟨nd, rfl⟩⟩; refine ⟨_, rfl, ?_⟩) | ((with_reducible refine gate_callee (f := 27) rfl ?_); refine goesL_ (some 12) rfl rfl Try.func27 (by kernel_rfl) rfl #[.slice A0 l0.length c0, .string (⟨#[104, 105, 103, 104, 119, 97, 121]⟩ : ByteArray), .string (⟨#[116, 114, 97, 99, 107]⟩ : ByteArray)] rfl (by (try simp only [List.map_toArray, List.map_cons, List.map_nil]); first | done | rfl | (simp only [List.length_drop, List.length_take]; rfl)) ?_; (with_reducible refine (mapmakerref18_is.calls k _ _ l0 (⟨#[104, 105, 103, 104, 119, 97, 121]⟩ : ByteArray) (⟨#[116, 114, 97, 99, 107]⟩ : ByteArray) false _ ?side1 ?side2 A10.out).mono ?_); (case side1 => repeat (first | exact HR0.out | (with_reducible refine Kd.C_alloc ?_ _) | (with_reducible refine Kd.C_drewN ?_ _) | (with_reducible refine Kd.C_drew ?_))); (case side2 => exact HC0.out); rintro e w' ⟨rfl, ⟨nd, rfl⟩⟩; refine ⟨_, rfl, ?_⟩) | ((with_reducible refine gate_callee (f := 28) rfl ?_); refine goesL_ (some 14) rfl rfl Try.func28 (by kernel_rfl) rfl #[.slice A0 l0.length c0, .string (⟨#[104, 105, 103, 104, 119, 97, 121]⟩ : ByteArray)] rfl (by (try simp only [List.map_toArray, List.map_cons, List.map_nil]); first | done | rfl | (simp only [List.length_drop, List.length_take]; rfl)) ?_; (with_reducible refine (mapmakerref18_has.calls k _ _ l0 (⟨#[104, 105, 103, 104, 119, 97, 121]⟩ : ByteArray) false _ ?side1 ?side2 A12.out).mono ?_); (case side1 => repeat (first | exact HR0.out | (with_reducible refine Kd.C_alloc ?_ _) | (with_reducible refine Kd.C_drewN ?_ _) | (with_reducible refine Kd.C_drew ?_))); (case side2 => exact HC0.out); rintro e w' ⟨rfl, ⟨nd, rfl⟩⟩; refine ⟨_, rfl, ?_⟩) | (go_at_call 27; (with_reducible refine (mapmakerref18_is.calls k _ _ l0 (⟨#[114, 111, 117, 116, 101]⟩ : ByteArray) (⟨#[102, 101, 114, 114, 121]⟩ : ByteArray) false _ ?side1 ?side2 A14.out).mono ?_); (case side1 => repeat (first | exact HR0.out | (with_reducible refine Kd.C_alloc ?_ _) | (with_reducible refine Kd.C_drewN ?_ _) | (with_reducible refine Kd.C_drew ?_))); (case side2 => exact HC0.out); rintro e w' ⟨rfl, ⟨nd, rfl⟩⟩))
                go_ret
                exact ⟨by first | rfl | (simp; done) | (simp [*]; done), by repeat (first | exact Drawn0.refl _ | apply Drawn0.step)⟩

/-! ### mapmakerref18_Theme: function 10 -/
def mapmakerref18_Theme.j0 : Nat → List (S32) → Bool → Option (Int)
  | 0, _, _ => none
  | k + 1, x0, x11 => if x11 = true then (some 3) else ((mapmakerref18_has.f k x0 (⟨#[108, 97, 110, 100, 117, 115, 101]⟩ : ByteArray)).bind fun t171 => (if t171 = true then (some 2) else ((mapmakerref18_Class.f k x0).bind fun t172 => (if t172 > 0 then (some 4) else ((mapmakerref18_has.f k x0 (⟨#[98, 111, 117, 110, 100, 97, 114, 121]⟩ : ByteArray)).bind fun t173 => (if t173 = true then (some 5) else ((mapmakerref18_has.f k x0 (⟨#[112, 108, 97, 99, 101]⟩ : ByteArray)).bind fun t174 => (if t174 = true then (some 6) else (some 0)))))))))
def mapmakerref18_Theme.f (k : Nat) (l0 : List (S32)) : Option (Int) := (mapmakerref18_is.f k l0 (⟨#[110, 97, 116, 117, 114, 97, 108]⟩ : ByteArray) (⟨#[119, 97, 116, 101, 114]⟩ : ByteArray)).bind fun t168 => (if t168 = true then (some 1) else ((mapmakerref18_has.f k l0 (⟨#[98, 117, 105, 108, 100, 105, 110, 103]⟩ : ByteArray)).bind fun t169 => (if t169 = true then ((mapmakerref18_is.f k l0 (⟨#[98, 117, 105, 108, 100, 105, 110, 103]⟩ : ByteArray) (⟨#[110, 111]⟩ : ByteArray)).bind fun t170 => (mapmakerref18_Theme.j0 k l0 (!t170))) else (mapmakerref18_Theme.j0 k l0 false))))
theorem mapmakerref18_Theme.mono_l : ∀ k, (∀ y0 y1, LeO (mapmakerref18_Theme.j0 k y0 y1) (mapmakerref18_Theme.j0 (k + 1) y0 y1))
  | 0 => fun _ _ r h => by simp [mapmakerref18_Theme.j0] at h
  | k + 1 => by
    have ih0 := mapmakerref18_Theme.mono_l k
    · intro y0 y1
      unfold mapmakerref18_Theme.j0
      repeat' first
      | (with_reducible exact ih0 _ _)
      | (with_reducible exact mapmakerref18_Class.mono _ _)
      | (with_reducible exact mapmakerref18_has.mono _ _ _)
      | (with_reducible exact mapmakerref18_is.mono _ _ _ _)
      | (with_reducible exact LeO.refl _)
      | (with_reducible exact LeO.none _)
      | (with_reducible refine LeO.ite ?_ ?_)
      | (with_reducible refine LeO.bind ?_ (fun _ => ?_))
      | exact ih0 _ _
      | exact mapmakerref18_Class.mono _ _
      | exact mapmakerref18_has.mono _ _ _
      | exact mapmakerref18_is.mono _ _ _ _
      | exact LeO.none _
      | refine LeO.ite ?_ ?_
      | refine LeO.bind ?_ (fun _ => ?_)
theorem mapmakerref18_Theme.mono : ∀ a0 k, LeO (mapmakerref18_Theme.f k a0) (mapmakerref18_Theme.f (k + 1) a0) := by
  intro a0 k
  have ih0 := mapmakerref18_Theme.mono_l k
  unfold mapmakerref18_Theme.f
  repeat' first
      | (with_reducible exact ih0 _ _)
      | (with_reducible exact mapmakerref18_Class.mono _ _)
      | (with_reducible exact mapmakerref18_has.mono _ _ _)
      | (with_reducible exact mapmakerref18_is.mono _ _ _ _)
      | (with_reducible exact LeO.refl _)
      | (with_reducible exact LeO.none _)
      | (with_reducible refine LeO.ite ?_ ?_)
      | (with_reducible refine LeO.bind ?_ (fun _ => ?_))
      | exact ih0 _ _
      | exact mapmakerref18_Class.mono _ _
      | exact mapmakerref18_has.mono _ _ _
      | exact mapmakerref18_is.mono _ _ _ _
      | exact LeO.none _
      | refine LeO.ite ?_ ?_
      | refine LeO.bind ?_ (fun _ => ?_)
set_option maxHeartbeats 8000000 in
set_option maxRecDepth 100000 in
theorem mapmakerref18_Theme.calls (k : Nat) (A0 : Option Addr) (c0 : Nat) (l0 : List (S32)) (r : Int) (w : World) (hr0 : Kd.C k32 w A0 l0.length l0) (hc0 : l0.length ≤ c0) (h : mapmakerref18_Theme.f k l0 = some r) :
    Calls Try.prog 10 #[.slice A0 l0.length c0] w fun e w' => e = .returned (.int .i64 r) ∧ Drawn0 w w' := by
  have HR0 := Aside0.mk hr0
  have HC0 := Aside0.mk hc0
  clear hr0 hc0
  have H : ((mapmakerref18_is.f k l0 (⟨#[110, 97, 116, 117, 114, 97, 108]⟩ : ByteArray) (⟨#[119, 97, 116, 101, 114]⟩ : ByteArray)).bind fun t168 => (if t168 = true then (some 1) else ((mapmakerref18_has.f k l0 (⟨#[98, 117, 105, 108, 100, 105, 110, 103]⟩ : ByteArray)).bind fun t169 => (if t169 = true then ((mapmakerref18_is.f k l0 (⟨#[98, 117, 105, 108, 100, 105, 110, 103]⟩ : ByteArray) (⟨#[110, 111]⟩ : ByteArray)).bind fun t170 => (mapmakerref18_Theme.j0 k l0 (!t170))) else (mapmakerref18_Theme.j0 k l0 false))))) = some r := h
  clear h
  replace H := Option.bind_eq_some_iff.mp H
  obtain ⟨t168, A20, H⟩ := H
  replace H : (if t168 = true then (some 1) else ((mapmakerref18_has.f k l0 (⟨#[98, 117, 105, 108, 100, 105, 110, 103]⟩ : ByteArray)).bind fun t169 => (if t169 = true then ((mapmakerref18_is.f k l0 (⟨#[98, 117, 105, 108, 100, 105, 110, 103]⟩ : ByteArray) (⟨#[110, 111]⟩ : ByteArray)).bind fun t170 => (mapmakerref18_Theme.j0 k l0 (!t170))) else (mapmakerref18_Theme.j0 k l0 false)))) = some r := H
  have A2 := Aside0.mk A20
  clear A20
  by_cases c3 : t168 = true
  · subst c3
    have H1 : (some 1) = some r := by rw [if_pos rfl] at H; exact H
    clear H
    have H := H1
    clear H1
    obtain rfl := Option.some.inj H
    go_enter Try.func10, Try.ntmps10
    go_wp2_with (first | ((with_reducible refine gate_callee (f := 27) rfl ?_); refine goesL_ (some 4) rfl rfl Try.func27 (by kernel_rfl) rfl #[.slice A0 l0.length c0, .string (⟨#[110, 97, 116, 117, 114, 97, 108]⟩ : ByteArray), .string (⟨#[119, 97, 116, 101, 114]⟩ : ByteArray)] rfl (by (try simp only [List.map_toArray, List.map_cons, List.map_nil]); first | done | rfl | (simp only [List.length_drop, List.length_take]; rfl)) ?_; (with_reducible refine (mapmakerref18_is.calls k _ _ l0 (⟨#[110, 97, 116, 117, 114, 97, 108]⟩ : ByteArray) (⟨#[119, 97, 116, 101, 114]⟩ : ByteArray) true _ ?side1 ?side2 A2.out).mono ?_); (case side1 => repeat (first | exact HR0.out | (with_reducible refine Kd.C_alloc ?_ _) | (with_reducible refine Kd.C_drewN ?_ _) | (with_reducible refine Kd.C_drew ?_))); (case side2 => exact HC0.out); rintro e w' ⟨rfl, ⟨nd, rfl⟩⟩; refine ⟨_, rfl, ?_⟩))
    go_ret
    exact ⟨by first | rfl | (simp; done) | (simp [*]; done), by repeat (first | exact Drawn0.refl _ | apply Drawn0.step)⟩
  · replace c3 := Bool.eq_false_iff.mpr c3
    subst c3
    have H1 : ((mapmakerref18_has.f k l0 (⟨#[98, 117, 105, 108, 100, 105, 110, 103]⟩ : ByteArray)).bind fun t169 => (if t169 = true then ((mapmakerref18_is.f k l0 (⟨#[98, 117, 105, 108, 100, 105, 110, 103]⟩ : ByteArray) (⟨#[110, 111]⟩ : ByteArray)).bind fun t170 => (mapmakerref18_Theme.j0 k l0 (!t170))) else (mapmakerref18_Theme.j0 k l0 false))) = some r := by rw [if_neg (show ¬ (false = true) by decide)] at H; exact H
    clear H
    have H := H1
    clear H1
    have HC4 := Aside0.mk H
    clear H
    go_enter Try.func10, Try.ntmps10
    go_upto_region 3 with (first | ((with_reducible refine gate_callee (f := 27) rfl ?_); refine goesL_ (some 4) rfl rfl Try.func27 (by kernel_rfl) rfl #[.slice A0 l0.length c0, .string (⟨#[110, 97, 116, 117, 114, 97, 108]⟩ : ByteArray), .string (⟨#[119, 97, 116, 101, 114]⟩ : ByteArray)] rfl (by (try simp only [List.map_toArray, List.map_cons, List.map_nil]); first | done | rfl | (simp only [List.length_drop, List.length_take]; rfl)) ?_; (with_reducible refine (mapmakerref18_is.calls k _ _ l0 (⟨#[110, 97, 116, 117, 114, 97, 108]⟩ : ByteArray) (⟨#[119, 97, 116, 101, 114]⟩ : ByteArray) false _ ?side1 ?side2 A2.out).mono ?_); (case side1 => repeat (first | exact HR0.out | (with_reducible refine Kd.C_alloc ?_ _) | (with_reducible refine Kd.C_drewN ?_ _) | (with_reducible refine Kd.C_drew ?_))); (case side2 => exact HC0.out); rintro e w' ⟨rfl, ⟨nd, rfl⟩⟩; refine ⟨_, rfl, ?_⟩))
    (try simp only [Act.put, List.setIfInBounds_toArray, List.set_cons_zero, List.set_cons_succ])
    go_cut [11] (fun v11 wc => ∃ (kq : Nat) (x11_3 : Bool), v11 = .bool x11_3 ∧ Aside0 (mapmakerref18_Theme.j0 kq l0 x11_3 = some r) ∧ Aside0 (kq ≤ k) ∧ Drawn0 w wc)
    case first =>
      have H := HC4.out
      clear HC4
      replace H := Option.bind_eq_some_iff.mp H
      obtain ⟨t169, A50, H⟩ := H
      replace H : (if t169 = true then ((mapmakerref18_is.f k l0 (⟨#[98, 117, 105, 108, 100, 105, 110, 103]⟩ : ByteArray) (⟨#[110, 111]⟩ : ByteArray)).bind fun t170 => (mapmakerref18_Theme.j0 k l0 (!t170))) else (mapmakerref18_Theme.j0 k l0 false)) = some r := H
      have A5 := Aside0.mk A50
      clear A50
      by_cases c6 : t169 = true
      · subst c6
        have H1 : ((mapmakerref18_is.f k l0 (⟨#[98, 117, 105, 108, 100, 105, 110, 103]⟩ : ByteArray) (⟨#[110, 111]⟩ : ByteArray)).bind fun t170 => (mapmakerref18_Theme.j0 k l0 (!t170))) = some r := by rw [if_pos rfl] at H; exact H
        clear H
        have H := H1
        clear H1
        replace H := Option.bind_eq_some_iff.mp H
        obtain ⟨t170, A70, H⟩ := H
        replace H : (mapmakerref18_Theme.j0 k l0 (!t170)) = some r := H
        have A7 := Aside0.mk A70
        clear A70
        have H' := Aside0.mk H
        clear H
        go_wp2_with (first | ((with_reducible refine gate_callee (f := 28) rfl ?_); refine goesL_ (some 6) rfl rfl Try.func28 (by kernel_rfl) rfl #[.slice A0 l0.length c0, .string (⟨#[98, 117, 105, 108, 100, 105, 110, 103]⟩ : ByteArray)] rfl (by (try simp only [List.map_toArray, List.map_cons, List.map_nil]); first | done | rfl | (simp only [List.length_drop, List.length_take]; rfl)) ?_; (with_reducible refine (mapmakerref18_has.calls k _ _ l0 (⟨#[98, 117, 105, 108, 100, 105, 110, 103]⟩ : ByteArray) true _ ?side1 ?side2 A5.out).mono ?_); (case side1 => repeat (first | exact HR0.out | (with_reducible refine Kd.C_alloc ?_ _) | (with_reducible refine Kd.C_drewN ?_ _) | (with_reducible refine Kd.C_drew ?_))); (case side2 => exact HC0.out); rintro e w' ⟨rfl, ⟨nd, rfl⟩⟩; refine ⟨_, rfl, ?_⟩) | (go_at_call 27; (with_reducible refine (mapmakerref18_is.calls k _ _ l0 (⟨#[98, 117, 105, 108, 100, 105, 110, 103]⟩ : ByteArray) (⟨#[110, 111]⟩ : ByteArray) t170 _ ?side1 ?side2 A7.out).mono ?_); (case side1 => repeat (first | exact HR0.out | (with_reducible refine Kd.C_alloc ?_ _) | (with_reducible refine Kd.C_drewN ?_ _) | (with_reducible refine Kd.C_drew ?_))); (case side2 => exact HC0.out); rintro e w' ⟨rfl, ⟨nd, rfl⟩⟩))
        go_meet
        case rel => exact ⟨_, (!t170), (by first | rfl | (simp; done) | (simp [*]; done)), H', ⟨by first | omega | exact Nat.le_refl _⟩, by repeat (first | exact Drawn0.refl _ | apply Drawn0.step)⟩
      · replace c6 := Bool.eq_false_iff.mpr c6
        subst c6
        have H1 : (mapmakerref18_Theme.j0 k l0 false) = some r := by rw [if_neg (show ¬ (false = true) by decide)] at H; exact H
        clear H
        have H := H1
        clear H1
        have H' := Aside0.mk H
        clear H
        go_wp2_with (first | ((with_reducible refine gate_callee (f := 28) rfl ?_); refine goesL_ (some 6) rfl rfl Try.func28 (by kernel_rfl) rfl #[.slice A0 l0.length c0, .string (⟨#[98, 117, 105, 108, 100, 105, 110, 103]⟩ : ByteArray)] rfl (by (try simp only [List.map_toArray, List.map_cons, List.map_nil]); first | done | rfl | (simp only [List.length_drop, List.length_take]; rfl)) ?_; (with_reducible refine (mapmakerref18_has.calls k _ _ l0 (⟨#[98, 117, 105, 108, 100, 105, 110, 103]⟩ : ByteArray) false _ ?side1 ?side2 A5.out).mono ?_); (case side1 => repeat (first | exact HR0.out | (with_reducible refine Kd.C_alloc ?_ _) | (with_reducible refine Kd.C_drewN ?_ _) | (with_reducible refine Kd.C_drew ?_))); (case side2 => exact HC0.out); rintro e w' ⟨rfl, ⟨nd, rfl⟩⟩; refine ⟨_, rfl, ?_⟩))
        go_meet
        case rel => exact ⟨_, (false), (by first | rfl | (simp; done) | (simp [*]; done)), H', ⟨by first | omega | exact Nat.le_refl _⟩, by repeat (first | exact Drawn0.refl _ | apply Drawn0.step)⟩
    case rest =>
      clear HC4
      try clear c1
      try clear c2
      try clear p2
      try clear c3
      try clear c6
      obtain ⟨kq, x11_3, rfl, HA, HJ3, ⟨mc3, rfl⟩⟩ := hcut
      cases kq with
      | zero => exact absurd HA.out (by simp [mapmakerref18_Theme.j0])
      | succ kj3 =>
        have H := HA.out
        clear HA
        simp only [mapmakerref18_Theme.j0] at H
        by_cases c8 : x11_3 = true
        · subst c8
          have H1 : (some 3) = some r := by rw [if_pos rfl] at H; exact H
          clear H
          have H := H1
          clear H1
          obtain rfl := Option.some.inj H
          go_wp2
          go_ret
          exact ⟨by first | rfl | (simp; done) | (simp [*]; done), by repeat (first | exact Drawn0.refl _ | apply Drawn0.step)⟩
        · replace c8 := Bool.eq_false_iff.mpr c8
          subst c8
          have H1 : ((mapmakerref18_has.f kj3 l0 (⟨#[108, 97, 110, 100, 117, 115, 101]⟩ : ByteArray)).bind fun t171 => (if t171 = true then (some 2) else ((mapmakerref18_Class.f kj3 l0).bind fun t172 => (if t172 > 0 then (some 4) else ((mapmakerref18_has.f kj3 l0 (⟨#[98, 111, 117, 110, 100, 97, 114, 121]⟩ : ByteArray)).bind fun t173 => (if t173 = true then (some 5) else ((mapmakerref18_has.f kj3 l0 (⟨#[112, 108, 97, 99, 101]⟩ : ByteArray)).bind fun t174 => (if t174 = true then (some 6) else (some 0))))))))) = some r := by rw [if_neg (show ¬ (false = true) by decide)] at H; exact H
          clear H
          have H := H1
          clear H1
          replace H := Option.bind_eq_some_iff.mp H
          obtain ⟨t171, A90, H⟩ := H
          replace H : (if t171 = true then (some 2) else ((mapmakerref18_Class.f kj3 l0).bind fun t172 => (if t172 > 0 then (some 4) else ((mapmakerref18_has.f kj3 l0 (⟨#[98, 111, 117, 110, 100, 97, 114, 121]⟩ : ByteArray)).bind fun t173 => (if t173 = true then (some 5) else ((mapmakerref18_has.f kj3 l0 (⟨#[112, 108, 97, 99, 101]⟩ : ByteArray)).bind fun t174 => (if t174 = true then (some 6) else (some 0)))))))) = some r := H
          have A9 := Aside0.mk A90
          clear A90
          by_cases c10 : t171 = true
          · subst c10
            have H1 : (some 2) = some r := by rw [if_pos rfl] at H; exact H
            clear H
            have H := H1
            clear H1
            obtain rfl := Option.some.inj H
            go_wp2_with (first | ((with_reducible refine gate_callee (f := 28) rfl ?_); refine goesL_ (some 13) rfl rfl Try.func28 (by kernel_rfl) rfl #[.slice A0 l0.length c0, .string (⟨#[108, 97, 110, 100, 117, 115, 101]⟩ : ByteArray)] rfl (by (try simp only [List.map_toArray, List.map_cons, List.map_nil]); first | done | rfl | (simp only [List.length_drop, List.length_take]; rfl)) ?_; (with_reducible refine (mapmakerref18_has.calls kj3 _ _ l0 (⟨#[108, 97, 110, 100, 117, 115, 101]⟩ : ByteArray) true _ ?side1 ?side2 A9.out).mono ?_); (case side1 => repeat (first | exact HR0.out | (with_reducible refine Kd.C_alloc ?_ _) | (with_reducible refine Kd.C_drewN ?_ _) | (with_reducible refine Kd.C_drew ?_))); (case side2 => exact HC0.out); rintro e w' ⟨rfl, ⟨nd, rfl⟩⟩; refine ⟨_, rfl, ?_⟩))
            go_ret
            exact ⟨by first | rfl | (simp; done) | (simp [*]; done), by repeat (first | exact Drawn0.refl _ | apply Drawn0.step)⟩
          · replace c10 := Bool.eq_false_iff.mpr c10
            subst c10
            have H1 : ((mapmakerref18_Class.f kj3 l0).bind fun t172 => (if t172 > 0 then (some 4) else ((mapmakerref18_has.f kj3 l0 (⟨#[98, 111, 117, 110, 100, 97, 114, 121]⟩ : ByteArray)).bind fun t173 => (if t173 = true then (some 5) else ((mapmakerref18_has.f kj3 l0 (⟨#[112, 108, 97, 99, 101]⟩ : ByteArray)).bind fun t174 => (if t174 = true then (some 6) else (some 0))))))) = some r := by rw [if_neg (show ¬ (false = true) by decide)] at H; exact H
            clear H
            have H := H1
            clear H1
            replace H := Option.bind_eq_some_iff.mp H
            obtain ⟨t172, A110, H⟩ := H
            replace H : (if t172 > 0 then (some 4) else ((mapmakerref18_has.f kj3 l0 (⟨#[98, 111, 117, 110, 100, 97, 114, 121]⟩ : ByteArray)).bind fun t173 => (if t173 = true then (some 5) else ((mapmakerref18_has.f kj3 l0 (⟨#[112, 108, 97, 99, 101]⟩ : ByteArray)).bind fun t174 => (if t174 = true then (some 6) else (some 0)))))) = some r := H
            have A11 := Aside0.mk A110
            clear A110
            by_cases c12 : t172 > 0
            · rw [if_pos c12] at H
              have c12b0 : decide (0 < t172) = true := decide_eq_true c12
              clear c12
              obtain rfl := Option.some.inj H
              go_wp2_with (first | ((with_reducible refine gate_callee (f := 28) rfl ?_); refine goesL_ (some 13) rfl rfl Try.func28 (by kernel_rfl) rfl #[.slice A0 l0.length c0, .string (⟨#[108, 97, 110, 100, 117, 115, 101]⟩ : ByteArray)] rfl (by (try simp only [List.map_toArray, List.map_cons, List.map_nil]); first | done | rfl | (simp only [List.length_drop, List.length_take]; rfl)) ?_; (with_reducible refine (mapmakerref18_has.calls kj3 _ _ l0 (⟨#[108, 97, 110, 100, 117, 115, 101]⟩ : ByteArray) false _ ?side1 ?side2 A9.out).mono ?_); (case side1 => repeat (first | exact HR0.out | (with_reducible refine Kd.C_alloc ?_ _) | (with_reducible refine Kd.C_drewN ?_ _) | (with_reducible refine Kd.C_drew ?_))); (case side2 => exact HC0.out); rintro e w' ⟨rfl, ⟨nd, rfl⟩⟩; refine ⟨_, rfl, ?_⟩) | ((with_reducible refine gate_callee (f := 16) rfl ?_); refine goesL_ (some 15) rfl rfl Try.func16 (by kernel_rfl) rfl #[.slice A0 l0.length c0] rfl (by (try simp only [List.map_toArray, List.map_cons, List.map_nil]); first | done | rfl | (simp only [List.length_drop, List.length_take]; rfl)) ?_; (with_reducible refine (mapmakerref18_Class.calls kj3 _ _ l0 t172 _ ?side1 ?side2 A11.out).mono ?_); (case side1 => repeat (first | exact HR0.out | (with_reducible refine Kd.C_alloc ?_ _) | (with_reducible refine Kd.C_drewN ?_ _) | (with_reducible refine Kd.C_drew ?_))); (case side2 => exact HC0.out); rintro e w' ⟨rfl, ⟨nd, rfl⟩⟩; refine ⟨_, rfl, ?_⟩))
              go_ret
              exact ⟨by first | rfl | (simp; done) | (simp [*]; done), by repeat (first | exact Drawn0.refl _ | apply Drawn0.step)⟩
            · rw [if_neg c12] at H
              have c12b0 : decide (0 < t172) = false := decide_eq_false c12
              clear c12
              replace H := Option.bind_eq_some_iff.mp H
              obtain ⟨t173, A130, H⟩ := H
              replace H : (if t173 = true then (some 5) else ((mapmakerref18_has.f kj3 l0 (⟨#[112, 108, 97, 99, 101]⟩ : ByteArray)).bind fun t174 => (if t174 = true then (some 6) else (some 0)))) = some r := H
              have A13 := Aside0.mk A130
              clear A130
              by_cases c14 : t173 = true
              · subst c14
                have H1 : (some 5) = some r := by rw [if_pos rfl] at H; exact H
                clear H
                have H := H1
                clear H1
                obtain rfl := Option.some.inj H
                go_wp2_with (first | ((with_reducible refine gate_callee (f := 28) rfl ?_); refine goesL_ (some 13) rfl rfl Try.func28 (by kernel_rfl) rfl #[.slice A0 l0.length c0, .string (⟨#[108, 97, 110, 100, 117, 115, 101]⟩ : ByteArray)] rfl (by (try simp only [List.map_toArray, List.map_cons, List.map_nil]); first | done | rfl | (simp only [List.length_drop, List.length_take]; rfl)) ?_; (with_reducible refine (mapmakerref18_has.calls kj3 _ _ l0 (⟨#[108, 97, 110, 100, 117, 115, 101]⟩ : ByteArray) false _ ?side1 ?side2 A9.out).mono ?_); (case side1 => repeat (first | exact HR0.out | (with_reducible refine Kd.C_alloc ?_ _) | (with_reducible refine Kd.C_drewN ?_ _) | (with_reducible refine Kd.C_drew ?_))); (case side2 => exact HC0.out); rintro e w' ⟨rfl, ⟨nd, rfl⟩⟩; refine ⟨_, rfl, ?_⟩) | ((with_reducible refine gate_callee (f := 16) rfl ?_); refine goesL_ (some 15) rfl rfl Try.func16 (by kernel_rfl) rfl #[.slice A0 l0.length c0] rfl (by (try simp only [List.map_toArray, List.map_cons, List.map_nil]); first | done | rfl | (simp only [List.length_drop, List.length_take]; rfl)) ?_; (with_reducible refine (mapmakerref18_Class.calls kj3 _ _ l0 t172 _ ?side1 ?side2 A11.out).mono ?_); (case side1 => repeat (first | exact HR0.out | (with_reducible refine Kd.C_alloc ?_ _) | (with_reducible refine Kd.C_drewN ?_ _) | (with_reducible refine Kd.C_drew ?_))); (case side2 => exact HC0.out); rintro e w' ⟨rfl, ⟨nd, rfl⟩⟩; refine ⟨_, rfl, ?_⟩) | ((with_reducible refine gate_callee (f := 28) rfl ?_); refine goesL_ (some 18) rfl rfl Try.func28 (by kernel_rfl) rfl #[.slice A0 l0.length c0, .string (⟨#[98, 111, 117, 110, 100, 97, 114, 121]⟩ : ByteArray)] rfl (by (try simp only [List.map_toArray, List.map_cons, List.map_nil]); first | done | rfl | (simp only [List.length_drop, List.length_take]; rfl)) ?_; (with_reducible refine (mapmakerref18_has.calls kj3 _ _ l0 (⟨#[98, 111, 117, 110, 100, 97, 114, 121]⟩ : ByteArray) true _ ?side1 ?side2 A13.out).mono ?_); (case side1 => repeat (first | exact HR0.out | (with_reducible refine Kd.C_alloc ?_ _) | (with_reducible refine Kd.C_drewN ?_ _) | (with_reducible refine Kd.C_drew ?_))); (case side2 => exact HC0.out); rintro e w' ⟨rfl, ⟨nd, rfl⟩⟩; refine ⟨_, rfl, ?_⟩))
                go_ret
                exact ⟨by first | rfl | (simp; done) | (simp [*]; done), by repeat (first | exact Drawn0.refl _ | apply Drawn0.step)⟩
              · replace c14 := Bool.eq_false_iff.mpr c14
                subst c14
                have H1 : ((mapmakerref18_has.f kj3 l0 (⟨#[112, 108, 97, 99, 101]⟩ : ByteArray)).bind fun t174 => (if t174 = true then (some 6) else (some 0))) = some r := by rw [if_neg (show ¬ (false = true) by decide)] at H; exact H
                clear H
                have H := H1
                clear H1
                replace H := Option.bind_eq_some_iff.mp H
                obtain ⟨t174, A150, H⟩ := H
                replace H : (if t174 = true then (some 6) else (some 0)) = some r := H
                have A15 := Aside0.mk A150
                clear A150
                by_cases c16 : t174 = true
                · subst c16
                  have H1 : (some 6) = some r := by rw [if_pos rfl] at H; exact H
                  clear H
                  have H := H1
                  clear H1
                  obtain rfl := Option.some.inj H
                  go_wp2_with (first | ((with_reducible refine gate_callee (f := 28) rfl ?_); refine goesL_ (some 13) rfl rfl Try.func28 (by kernel_rfl) rfl #[.slice A0 l0.length c0, .string (⟨#[108, 97, 110, 100, 117, 115, 101]⟩ : ByteArray)] rfl (by (try simp only [List.map_toArray, List.map_cons, List.map_nil]); first | done | rfl | (simp only [List.length_drop, List.length_take]; rfl)) ?_; (with_reducible refine (mapmakerref18_has.calls kj3 _ _ l0 (⟨#[108, 97, 110, 100, 117, 115, 101]⟩ : ByteArray) false _ ?side1 ?side2 A9.out).mono ?_); (case side1 => repeat (first | exact HR0.out | (with_reducible refine Kd.C_alloc ?_ _) | (with_reducible refine Kd.C_drewN ?_ _) | (with_reducible refine Kd.C_drew ?_))); (case side2 => exact HC0.out); rintro e w' ⟨rfl, ⟨nd, rfl⟩⟩; refine ⟨_, rfl, ?_⟩) | ((with_reducible refine gate_callee (f := 16) rfl ?_); refine goesL_ (some 15) rfl rfl Try.func16 (by kernel_rfl) rfl #[.slice A0 l0.length c0] rfl (by (try simp only [List.map_toArray, List.map_cons, List.map_nil]); first | done | rfl | (simp only [List.length_drop, List.length_take]; rfl)) ?_; (with_reducible refine (mapmakerref18_Class.calls kj3 _ _ l0 t172 _ ?side1 ?side2 A11.out).mono ?_); (case side1 => repeat (first | exact HR0.out | (with_reducible refine Kd.C_alloc ?_ _) | (with_reducible refine Kd.C_drewN ?_ _) | (with_reducible refine Kd.C_drew ?_))); (case side2 => exact HC0.out); rintro e w' ⟨rfl, ⟨nd, rfl⟩⟩; refine ⟨_, rfl, ?_⟩) | ((with_reducible refine gate_callee (f := 28) rfl ?_); refine goesL_ (some 18) rfl rfl Try.func28 (by kernel_rfl) rfl #[.slice A0 l0.length c0, .string (⟨#[98, 111, 117, 110, 100, 97, 114, 121]⟩ : ByteArray)] rfl (by (try simp only [List.map_toArray, List.map_cons, List.map_nil]); first | done | rfl | (simp only [List.length_drop, List.length_take]; rfl)) ?_; (with_reducible refine (mapmakerref18_has.calls kj3 _ _ l0 (⟨#[98, 111, 117, 110, 100, 97, 114, 121]⟩ : ByteArray) false _ ?side1 ?side2 A13.out).mono ?_); (case side1 => repeat (first | exact HR0.out | (with_reducible refine Kd.C_alloc ?_ _) | (with_reducible refine Kd.C_drewN ?_ _) | (with_reducible refine Kd.C_drew ?_))); (case side2 => exact HC0.out); rintro e w' ⟨rfl, ⟨nd, rfl⟩⟩; refine ⟨_, rfl, ?_⟩) | ((with_reducible refine gate_callee (f := 28) rfl ?_); refine goesL_ (some 20) rfl rfl Try.func28 (by kernel_rfl) rfl #[.slice A0 l0.length c0, .string (⟨#[112, 108, 97, 99, 101]⟩ : ByteArray)] rfl (by (try simp only [List.map_toArray, List.map_cons, List.map_nil]); first | done | rfl | (simp only [List.length_drop, List.length_take]; rfl)) ?_; (with_reducible refine (mapmakerref18_has.calls kj3 _ _ l0 (⟨#[112, 108, 97, 99, 101]⟩ : ByteArray) true _ ?side1 ?side2 A15.out).mono ?_); (case side1 => repeat (first | exact HR0.out | (with_reducible refine Kd.C_alloc ?_ _) | (with_reducible refine Kd.C_drewN ?_ _) | (with_reducible refine Kd.C_drew ?_))); (case side2 => exact HC0.out); rintro e w' ⟨rfl, ⟨nd, rfl⟩⟩; refine ⟨_, rfl, ?_⟩))
                  go_ret
                  exact ⟨by first | rfl | (simp; done) | (simp [*]; done), by repeat (first | exact Drawn0.refl _ | apply Drawn0.step)⟩
                · replace c16 := Bool.eq_false_iff.mpr c16
                  subst c16
                  have H1 : (some 0) = some r := by rw [if_neg (show ¬ (false = true) by decide)] at H; exact H
                  clear H
                  have H := H1
                  clear H1
                  obtain rfl := Option.some.inj H
                  go_wp2_with (first | ((with_reducible refine gate_callee (f := 28) rfl ?_); refine goesL_ (some 13) rfl rfl Try.func28 (by kernel_rfl) rfl #[.slice A0 l0.length c0, .string (⟨#[108, 97, 110, 100, 117, 115, 101]⟩ : ByteArray)] rfl (by (try simp only [List.map_toArray, List.map_cons, List.map_nil]); first | done | rfl | (simp only [List.length_drop, List.length_take]; rfl)) ?_; (with_reducible refine (mapmakerref18_has.calls kj3 _ _ l0 (⟨#[108, 97, 110, 100, 117, 115, 101]⟩ : ByteArray) false _ ?side1 ?side2 A9.out).mono ?_); (case side1 => repeat (first | exact HR0.out | (with_reducible refine Kd.C_alloc ?_ _) | (with_reducible refine Kd.C_drewN ?_ _) | (with_reducible refine Kd.C_drew ?_))); (case side2 => exact HC0.out); rintro e w' ⟨rfl, ⟨nd, rfl⟩⟩; refine ⟨_, rfl, ?_⟩) | ((with_reducible refine gate_callee (f := 16) rfl ?_); refine goesL_ (some 15) rfl rfl Try.func16 (by kernel_rfl) rfl #[.slice A0 l0.length c0] rfl (by (try simp only [List.map_toArray, List.map_cons, List.map_nil]); first | done | rfl | (simp only [List.length_drop, List.length_take]; rfl)) ?_; (with_reducible refine (mapmakerref18_Class.calls kj3 _ _ l0 t172 _ ?side1 ?side2 A11.out).mono ?_); (case side1 => repeat (first | exact HR0.out | (with_reducible refine Kd.C_alloc ?_ _) | (with_reducible refine Kd.C_drewN ?_ _) | (with_reducible refine Kd.C_drew ?_))); (case side2 => exact HC0.out); rintro e w' ⟨rfl, ⟨nd, rfl⟩⟩; refine ⟨_, rfl, ?_⟩) | ((with_reducible refine gate_callee (f := 28) rfl ?_); refine goesL_ (some 18) rfl rfl Try.func28 (by kernel_rfl) rfl #[.slice A0 l0.length c0, .string (⟨#[98, 111, 117, 110, 100, 97, 114, 121]⟩ : ByteArray)] rfl (by (try simp only [List.map_toArray, List.map_cons, List.map_nil]); first | done | rfl | (simp only [List.length_drop, List.length_take]; rfl)) ?_; (with_reducible refine (mapmakerref18_has.calls kj3 _ _ l0 (⟨#[98, 111, 117, 110, 100, 97, 114, 121]⟩ : ByteArray) false _ ?side1 ?side2 A13.out).mono ?_); (case side1 => repeat (first | exact HR0.out | (with_reducible refine Kd.C_alloc ?_ _) | (with_reducible refine Kd.C_drewN ?_ _) | (with_reducible refine Kd.C_drew ?_))); (case side2 => exact HC0.out); rintro e w' ⟨rfl, ⟨nd, rfl⟩⟩; refine ⟨_, rfl, ?_⟩) | ((with_reducible refine gate_callee (f := 28) rfl ?_); refine goesL_ (some 20) rfl rfl Try.func28 (by kernel_rfl) rfl #[.slice A0 l0.length c0, .string (⟨#[112, 108, 97, 99, 101]⟩ : ByteArray)] rfl (by (try simp only [List.map_toArray, List.map_cons, List.map_nil]); first | done | rfl | (simp only [List.length_drop, List.length_take]; rfl)) ?_; (with_reducible refine (mapmakerref18_has.calls kj3 _ _ l0 (⟨#[112, 108, 97, 99, 101]⟩ : ByteArray) false _ ?side1 ?side2 A15.out).mono ?_); (case side1 => repeat (first | exact HR0.out | (with_reducible refine Kd.C_alloc ?_ _) | (with_reducible refine Kd.C_drewN ?_ _) | (with_reducible refine Kd.C_drew ?_))); (case side2 => exact HC0.out); rintro e w' ⟨rfl, ⟨nd, rfl⟩⟩; refine ⟨_, rfl, ?_⟩))
                  go_ret
                  exact ⟨by first | rfl | (simp; done) | (simp [*]; done), by repeat (first | exact Drawn0.refl _ | apply Drawn0.step)⟩

/-! ### mapmakerref18_IsArea: function 12 -/
def mapmakerref18_IsArea.f (k : Nat) (l0 : List (S32)) : Option (Bool) := (mapmakerref18_Theme.f k l0).bind fun t175 => ((mapmakerref18_is.f k l0 (⟨#[97, 114, 101, 97]⟩ : ByteArray) (⟨#[110, 111]⟩ : ByteArray)).bind fun t176 => (if t176 = true then (some false) else (if t175 = 1 then (some true) else (if t175 = 3 then (some true) else (if t175 = 2 then (some true) else (if t175 = 5 then ((mapmakerref18_is.f k l0 (⟨#[97, 114, 101, 97]⟩ : ByteArray) (⟨#[121, 101, 115]⟩ : ByteArray)).bind fun t177 => (some t177)) else (some false)))))))
theorem mapmakerref18_IsArea.mono : ∀ a0 k, LeO (mapmakerref18_IsArea.f k a0) (mapmakerref18_IsArea.f (k + 1) a0) := by
  intro a0 k
  unfold mapmakerref18_IsArea.f
  repeat' first
      | (with_reducible exact mapmakerref18_Theme.mono _ _)
      | (with_reducible exact mapmakerref18_is.mono _ _ _ _)
      | (with_reducible exact LeO.refl _)
      | (with_reducible exact LeO.none _)
      | (with_reducible refine LeO.ite ?_ ?_)
      | (with_reducible refine LeO.bind ?_ (fun _ => ?_))
      | exact mapmakerref18_Theme.mono _ _
      | exact mapmakerref18_is.mono _ _ _ _
      | exact LeO.none _
      | refine LeO.ite ?_ ?_
      | refine LeO.bind ?_ (fun _ => ?_)
set_option maxHeartbeats 8000000 in
set_option maxRecDepth 100000 in
theorem mapmakerref18_IsArea.calls (k : Nat) (A0 : Option Addr) (c0 : Nat) (l0 : List (S32)) (r : Bool) (w : World) (hr0 : Kd.C k32 w A0 l0.length l0) (hc0 : l0.length ≤ c0) (h : mapmakerref18_IsArea.f k l0 = some r) :
    Calls Try.prog 12 #[.slice A0 l0.length c0] w fun e w' => e = .returned (.bool r) ∧ Drawn0 w w' := by
  have HR0 := Aside0.mk hr0
  have HC0 := Aside0.mk hc0
  clear hr0 hc0
  have H : ((mapmakerref18_Theme.f k l0).bind fun t175 => ((mapmakerref18_is.f k l0 (⟨#[97, 114, 101, 97]⟩ : ByteArray) (⟨#[110, 111]⟩ : ByteArray)).bind fun t176 => (if t176 = true then (some false) else (if t175 = 1 then (some true) else (if t175 = 3 then (some true) else (if t175 = 2 then (some true) else (if t175 = 5 then ((mapmakerref18_is.f k l0 (⟨#[97, 114, 101, 97]⟩ : ByteArray) (⟨#[121, 101, 115]⟩ : ByteArray)).bind fun t177 => (some t177)) else (some false)))))))) = some r := h
  clear h
  replace H := Option.bind_eq_some_iff.mp H
  obtain ⟨t175, A20, H⟩ := H
  replace H : ((mapmakerref18_is.f k l0 (⟨#[97, 114, 101, 97]⟩ : ByteArray) (⟨#[110, 111]⟩ : ByteArray)).bind fun t176 => (if t176 = true then (some false) else (if t175 = 1 then (some true) else (if t175 = 3 then (some true) else (if t175 = 2 then (some true) else (if t175 = 5 then ((mapmakerref18_is.f k l0 (⟨#[97, 114, 101, 97]⟩ : ByteArray) (⟨#[121, 101, 115]⟩ : ByteArray)).bind fun t177 => (some t177)) else (some false))))))) = some r := H
  have A2 := Aside0.mk A20
  clear A20
  replace H := Option.bind_eq_some_iff.mp H
  obtain ⟨t176, A30, H⟩ := H
  replace H : (if t176 = true then (some false) else (if t175 = 1 then (some true) else (if t175 = 3 then (some true) else (if t175 = 2 then (some true) else (if t175 = 5 then ((mapmakerref18_is.f k l0 (⟨#[97, 114, 101, 97]⟩ : ByteArray) (⟨#[121, 101, 115]⟩ : ByteArray)).bind fun t177 => (some t177)) else (some false)))))) = some r := H
  have A3 := Aside0.mk A30
  clear A30
  by_cases c4 : t176 = true
  · subst c4
    have H1 : (some false) = some r := by rw [if_pos rfl] at H; exact H
    clear H
    have H := H1
    clear H1
    obtain rfl := Option.some.inj H
    go_enter Try.func12, Try.ntmps12
    go_wp2_with (first | ((with_reducible refine gate_callee (f := 10) rfl ?_); refine goesL_ (some 5) rfl rfl Try.func10 (by kernel_rfl) rfl #[.slice A0 l0.length c0] rfl (by (try simp only [List.map_toArray, List.map_cons, List.map_nil]); first | done | rfl | (simp only [List.length_drop, List.length_take]; rfl)) ?_; (with_reducible refine (mapmakerref18_Theme.calls k _ _ l0 t175 _ ?side1 ?side2 A2.out).mono ?_); (case side1 => repeat (first | exact HR0.out | (with_reducible refine Kd.C_alloc ?_ _) | (with_reducible refine Kd.C_drewN ?_ _) | (with_reducible refine Kd.C_drew ?_))); (case side2 => exact HC0.out); rintro e w' ⟨rfl, ⟨nd, rfl⟩⟩; refine ⟨_, rfl, ?_⟩) | ((with_reducible refine gate_callee (f := 27) rfl ?_); refine goesL_ (some 7) rfl rfl Try.func27 (by kernel_rfl) rfl #[.slice A0 l0.length c0, .string (⟨#[97, 114, 101, 97]⟩ : ByteArray), .string (⟨#[110, 111]⟩ : ByteArray)] rfl (by (try simp only [List.map_toArray, List.map_cons, List.map_nil]); first | done | rfl | (simp only [List.length_drop, List.length_take]; rfl)) ?_; (with_reducible refine (mapmakerref18_is.calls k _ _ l0 (⟨#[97, 114, 101, 97]⟩ : ByteArray) (⟨#[110, 111]⟩ : ByteArray) true _ ?side1 ?side2 A3.out).mono ?_); (case side1 => repeat (first | exact HR0.out | (with_reducible refine Kd.C_alloc ?_ _) | (with_reducible refine Kd.C_drewN ?_ _) | (with_reducible refine Kd.C_drew ?_))); (case side2 => exact HC0.out); rintro e w' ⟨rfl, ⟨nd, rfl⟩⟩; refine ⟨_, rfl, ?_⟩))
    go_ret
    exact ⟨by first | rfl | (simp; done) | (simp [*]; done), by repeat (first | exact Drawn0.refl _ | apply Drawn0.step)⟩
  · replace c4 := Bool.eq_false_iff.mpr c4
    subst c4
    have H1 : (if t175 = 1 then (some true) else (if t175 = 3 then (some true) else (if t175 = 2 then (some true) else (if t175 = 5 then ((mapmakerref18_is.f k l0 (⟨#[97, 114, 101, 97]⟩ : ByteArray) (⟨#[121, 101, 115]⟩ : ByteArray)).bind fun t177 => (some t177)) else (some false))))) = some r := by rw [if_neg (show ¬ (false = true) by decide)] at H; exact H
    clear H
    have H := H1
    clear H1
    by_cases c5 : t175 = 1
    · rw [if_pos c5] at H
      have c5b0 : (t175 == 1) = true := beq_iff_eq.mpr c5
      have c5b1 : (t175 != 1) = false := bne_eq_false_iff_eq.mpr c5
      clear c5
      obtain rfl := Option.some.inj H
      go_enter Try.func12, Try.ntmps12
      go_wp2_with (first | ((with_reducible refine gate_callee (f := 10) rfl ?_); refine goesL_ (some 5) rfl rfl Try.func10 (by kernel_rfl) rfl #[.slice A0 l0.length c0] rfl (by (try simp only [List.map_toArray, List.map_cons, List.map_nil]); first | done | rfl | (simp only [List.length_drop, List.length_take]; rfl)) ?_; (with_reducible refine (mapmakerref18_Theme.calls k _ _ l0 t175 _ ?side1 ?side2 A2.out).mono ?_); (case side1 => repeat (first | exact HR0.out | (with_reducible refine Kd.C_alloc ?_ _) | (with_reducible refine Kd.C_drewN ?_ _) | (with_reducible refine Kd.C_drew ?_))); (case side2 => exact HC0.out); rintro e w' ⟨rfl, ⟨nd, rfl⟩⟩; refine ⟨_, rfl, ?_⟩) | ((with_reducible refine gate_callee (f := 27) rfl ?_); refine goesL_ (some 7) rfl rfl Try.func27 (by kernel_rfl) rfl #[.slice A0 l0.length c0, .string (⟨#[97, 114, 101, 97]⟩ : ByteArray), .string (⟨#[110, 111]⟩ : ByteArray)] rfl (by (try simp only [List.map_toArray, List.map_cons, List.map_nil]); first | done | rfl | (simp only [List.length_drop, List.length_take]; rfl)) ?_; (with_reducible refine (mapmakerref18_is.calls k _ _ l0 (⟨#[97, 114, 101, 97]⟩ : ByteArray) (⟨#[110, 111]⟩ : ByteArray) false _ ?side1 ?side2 A3.out).mono ?_); (case side1 => repeat (first | exact HR0.out | (with_reducible refine Kd.C_alloc ?_ _) | (with_reducible refine Kd.C_drewN ?_ _) | (with_reducible refine Kd.C_drew ?_))); (case side2 => exact HC0.out); rintro e w' ⟨rfl, ⟨nd, rfl⟩⟩; refine ⟨_, rfl, ?_⟩))
      go_ret
      exact ⟨by first | rfl | (simp; done) | (simp [*]; done), by repeat (first | exact Drawn0.refl _ | apply Drawn0.step)⟩
    · rw [if_neg c5] at H
      have c5b0 : (t175 == 1) = false := beq_eq_false_iff_ne.mpr c5
      have c5b1 : (t175 != 1) = true := bne_iff_ne.mpr c5
      by_cases c6 : t175 = 3
      · rw [if_pos c6] at H
        have c6b0 : (t175 == 3) = true := beq_iff_eq.mpr c6
        have c6b1 : (t175 != 3) = false := bne_eq_false_iff_eq.mpr c6
        clear c6
        obtain rfl := Option.some.inj H
        go_enter Try.func12, Try.ntmps12
        go_wp2_with (first | ((with_reducible refine gate_callee (f := 10) rfl ?_); refine goesL_ (some 5) rfl rfl Try.func10 (by kernel_rfl) rfl #[.slice A0 l0.length c0] rfl (by (try simp only [List.map_toArray, List.map_cons, List.map_nil]); first | done | rfl | (simp only [List.length_drop, List.length_take]; rfl)) ?_; (with_reducible refine (mapmakerref18_Theme.calls k _ _ l0 t175 _ ?side1 ?side2 A2.out).mono ?_); (case side1 => repeat (first | exact HR0.out | (with_reducible refine Kd.C_alloc ?_ _) | (with_reducible refine Kd.C_drewN ?_ _) | (with_reducible refine Kd.C_drew ?_))); (case side2 => exact HC0.out); rintro e w' ⟨rfl, ⟨nd, rfl⟩⟩; refine ⟨_, rfl, ?_⟩) | ((with_reducible refine gate_callee (f := 27) rfl ?_); refine goesL_ (some 7) rfl rfl Try.func27 (by kernel_rfl) rfl #[.slice A0 l0.length c0, .string (⟨#[97, 114, 101, 97]⟩ : ByteArray), .string (⟨#[110, 111]⟩ : ByteArray)] rfl (by (try simp only [List.map_toArray, List.map_cons, List.map_nil]); first | done | rfl | (simp only [List.length_drop, List.length_take]; rfl)) ?_; (with_reducible refine (mapmakerref18_is.calls k _ _ l0 (⟨#[97, 114, 101, 97]⟩ : ByteArray) (⟨#[110, 111]⟩ : ByteArray) false _ ?side1 ?side2 A3.out).mono ?_); (case side1 => repeat (first | exact HR0.out | (with_reducible refine Kd.C_alloc ?_ _) | (with_reducible refine Kd.C_drewN ?_ _) | (with_reducible refine Kd.C_drew ?_))); (case side2 => exact HC0.out); rintro e w' ⟨rfl, ⟨nd, rfl⟩⟩; refine ⟨_, rfl, ?_⟩))
        go_ret
        exact ⟨by first | rfl | (simp; done) | (simp [*]; done), by repeat (first | exact Drawn0.refl _ | apply Drawn0.step)⟩
      · rw [if_neg c6] at H
        have c6b0 : (t175 == 3) = false := beq_eq_false_iff_ne.mpr c6
        have c6b1 : (t175 != 3) = true := bne_iff_ne.mpr c6
        by_cases c7 : t175 = 2
        · rw [if_pos c7] at H
          have c7b0 : (t175 == 2) = true := beq_iff_eq.mpr c7
          have c7b1 : (t175 != 2) = false := bne_eq_false_iff_eq.mpr c7
          clear c7
          obtain rfl := Option.some.inj H
          go_enter Try.func12, Try.ntmps12
          go_wp2_with (first | ((with_reducible refine gate_callee (f := 10) rfl ?_); refine goesL_ (some 5) rfl rfl Try.func10 (by kernel_rfl) rfl #[.slice A0 l0.length c0] rfl (by (try simp only [List.map_toArray, List.map_cons, List.map_nil]); first | done | rfl | (simp only [List.length_drop, List.length_take]; rfl)) ?_; (with_reducible refine (mapmakerref18_Theme.calls k _ _ l0 t175 _ ?side1 ?side2 A2.out).mono ?_); (case side1 => repeat (first | exact HR0.out | (with_reducible refine Kd.C_alloc ?_ _) | (with_reducible refine Kd.C_drewN ?_ _) | (with_reducible refine Kd.C_drew ?_))); (case side2 => exact HC0.out); rintro e w' ⟨rfl, ⟨nd, rfl⟩⟩; refine ⟨_, rfl, ?_⟩) | ((with_reducible refine gate_callee (f := 27) rfl ?_); refine goesL_ (some 7) rfl rfl Try.func27 (by kernel_rfl) rfl #[.slice A0 l0.length c0, .string (⟨#[97, 114, 101, 97]⟩ : ByteArray), .string (⟨#[110, 111]⟩ : ByteArray)] rfl (by (try simp only [List.map_toArray, List.map_cons, List.map_nil]); first | done | rfl | (simp only [List.length_drop, List.length_take]; rfl)) ?_; (with_reducible refine (mapmakerref18_is.calls k _ _ l0 (⟨#[97, 114, 101, 97]⟩ : ByteArray) (⟨#[110, 111]⟩ : ByteArray) false _ ?side1 ?side2 A3.out).mono ?_); (case side1 => repeat (first | exact HR0.out | (with_reducible refine Kd.C_alloc ?_ _) | (with_reducible refine Kd.C_drewN ?_ _) | (with_reducible refine Kd.C_drew ?_))); (case side2 => exact HC0.out); rintro e w' ⟨rfl, ⟨nd, rfl⟩⟩; refine ⟨_, rfl, ?_⟩))
          go_ret
          exact ⟨by first | rfl | (simp; done) | (simp [*]; done), by repeat (first | exact Drawn0.refl _ | apply Drawn0.step)⟩
        · rw [if_neg c7] at H
          have c7b0 : (t175 == 2) = false := beq_eq_false_iff_ne.mpr c7
          have c7b1 : (t175 != 2) = true := bne_iff_ne.mpr c7
          by_cases c8 : t175 = 5
          · rw [if_pos c8] at H
            have c8b0 : (t175 == 5) = true := beq_iff_eq.mpr c8
            have c8b1 : (t175 != 5) = false := bne_eq_false_iff_eq.mpr c8
            clear c8
            replace H := Option.bind_eq_some_iff.mp H
            obtain ⟨t177, A90, H⟩ := H
            replace H : (some t177) = some r := H
            have A9 := Aside0.mk A90
            clear A90
            obtain rfl := Option.some.inj H
            go_enter Try.func12, Try.ntmps12
            go_wp2_with (first | ((with_reducible refine gate_callee (f := 10) rfl ?_); refine goesL_ (some 5) rfl rfl Try.func10 (by kernel_rfl) rfl #[.slice A0 l0.length c0] rfl (by (try simp only [List.map_toArray, List.map_cons, List.map_nil]); first | done | rfl | (simp only [List.length_drop, List.length_take]; rfl)) ?_; (with_reducible refine (mapmakerref18_Theme.calls k _ _ l0 t175 _ ?side1 ?side2 A2.out).mono ?_); (case side1 => repeat (first | exact HR0.out | (with_reducible refine Kd.C_alloc ?_ _) | (with_reducible refine Kd.C_drewN ?_ _) | (with_reducible refine Kd.C_drew ?_))); (case side2 => exact HC0.out); rintro e w' ⟨rfl, ⟨nd, rfl⟩⟩; refine ⟨_, rfl, ?_⟩) | ((with_reducible refine gate_callee (f := 27) rfl ?_); refine goesL_ (some 7) rfl rfl Try.func27 (by kernel_rfl) rfl #[.slice A0 l0.length c0, .string (⟨#[97, 114, 101, 97]⟩ : ByteArray), .string (⟨#[110, 111]⟩ : ByteArray)] rfl (by (try simp only [List.map_toArray, List.map_cons, List.map_nil]); first | done | rfl | (simp only [List.length_drop, List.length_take]; rfl)) ?_; (with_reducible refine (mapmakerref18_is.calls k _ _ l0 (⟨#[97, 114, 101, 97]⟩ : ByteArray) (⟨#[110, 111]⟩ : ByteArray) false _ ?side1 ?side2 A3.out).mono ?_); (case side1 => repeat (first | exact HR0.out | (with_reducible refine Kd.C_alloc ?_ _) | (with_reducible refine Kd.C_drewN ?_ _) | (with_reducible refine Kd.C_drew ?_))); (case side2 => exact HC0.out); rintro e w' ⟨rfl, ⟨nd, rfl⟩⟩; refine ⟨_, rfl, ?_⟩) | (go_at_call 27; (with_reducible refine (mapmakerref18_is.calls k _ _ l0 (⟨#[97, 114, 101, 97]⟩ : ByteArray) (⟨#[121, 101, 115]⟩ : ByteArray) t177 _ ?side1 ?side2 A9.out).mono ?_); (case side1 => repeat (first | exact HR0.out | (with_reducible refine Kd.C_alloc ?_ _) | (with_reducible refine Kd.C_drewN ?_ _) | (with_reducible refine Kd.C_drew ?_))); (case side2 => exact HC0.out); rintro e w' ⟨rfl, ⟨nd, rfl⟩⟩))
            go_ret
            exact ⟨by first | rfl | (simp; done) | (simp [*]; done), by repeat (first | exact Drawn0.refl _ | apply Drawn0.step)⟩
          · rw [if_neg c8] at H
            have c8b0 : (t175 == 5) = false := beq_eq_false_iff_ne.mpr c8
            have c8b1 : (t175 != 5) = true := bne_iff_ne.mpr c8
            obtain rfl := Option.some.inj H
            go_enter Try.func12, Try.ntmps12
            go_wp2_with (first | ((with_reducible refine gate_callee (f := 10) rfl ?_); refine goesL_ (some 5) rfl rfl Try.func10 (by kernel_rfl) rfl #[.slice A0 l0.length c0] rfl (by (try simp only [List.map_toArray, List.map_cons, List.map_nil]); first | done | rfl | (simp only [List.length_drop, List.length_take]; rfl)) ?_; (with_reducible refine (mapmakerref18_Theme.calls k _ _ l0 t175 _ ?side1 ?side2 A2.out).mono ?_); (case side1 => repeat (first | exact HR0.out | (with_reducible refine Kd.C_alloc ?_ _) | (with_reducible refine Kd.C_drewN ?_ _) | (with_reducible refine Kd.C_drew ?_))); (case side2 => exact HC0.out); rintro e w' ⟨rfl, ⟨nd, rfl⟩⟩; refine ⟨_, rfl, ?_⟩) | ((with_reducible refine gate_callee (f := 27) rfl ?_); refine goesL_ (some 7) rfl rfl Try.func27 (by kernel_rfl) rfl #[.slice A0 l0.length c0, .string (⟨#[97, 114, 101, 97]⟩ : ByteArray), .string (⟨#[110, 111]⟩ : ByteArray)] rfl (by (try simp only [List.map_toArray, List.map_cons, List.map_nil]); first | done | rfl | (simp only [List.length_drop, List.length_take]; rfl)) ?_; (with_reducible refine (mapmakerref18_is.calls k _ _ l0 (⟨#[97, 114, 101, 97]⟩ : ByteArray) (⟨#[110, 111]⟩ : ByteArray) false _ ?side1 ?side2 A3.out).mono ?_); (case side1 => repeat (first | exact HR0.out | (with_reducible refine Kd.C_alloc ?_ _) | (with_reducible refine Kd.C_drewN ?_ _) | (with_reducible refine Kd.C_drew ?_))); (case side2 => exact HC0.out); rintro e w' ⟨rfl, ⟨nd, rfl⟩⟩; refine ⟨_, rfl, ?_⟩))
            go_ret
            exact ⟨by first | rfl | (simp; done) | (simp [*]; done), by repeat (first | exact Drawn0.refl _ | apply Drawn0.step)⟩

end Go.Proofs.Ytolhkhaglopioaa.PClassifyThemes
