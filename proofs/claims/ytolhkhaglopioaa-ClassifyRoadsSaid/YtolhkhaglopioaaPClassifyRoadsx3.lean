-- out of a driver of this session's prover over the kit's print: Lean checks it
import Derived.Test.YtolhkhaglopioaaPClassifyRoadsx0
import Derived.Test.YtolhkhaglopioaaPClassifyRoadsx1
namespace Go.Proofs.Ytolhkhaglopioaa.PClassifyRoads
open Go.Proofs.YtolhkhaglopioaaG
open Go.RowKit Go.Proofs.YtolhkhaglopioaaW.PrintWords Go.Proofs.YtolhkhaglopioaaW.PrintLast Go.Proofs.YtolhkhaglopioaaW.PrintMore
attribute [local go_sem] max2_int min2_int max_two min_two max_three min_three max_four min_four   -- for this text's walks alone
set_option linter.unusedVariables false
set_option linter.unusedSimpArgs false

/-! ### mapmakerref06_Get: function 31 -/
def mapmakerref06_Get.l0 : Nat → List (S32) → ByteArray → Int → Option (ByteArray × Bool)
  | 0, _, _, _ => none
  | k + 1, x0, x1, x6 => if x6 < (x0.length : Int) then (if 0 ≤ x6 then (if ((rd_T32 x0 x6).f0).toList = x1.toList then (some ((rd_T32 x0 x6).f1, true)) else (mapmakerref06_Get.l0 k x0 x1 (wrap64 (x6 + 1)))) else (none)) else (some ((⟨#[]⟩ : ByteArray), false))
def mapmakerref06_Get.f (k : Nat) (l0 : List (S32)) (a1 : ByteArray) : Option (ByteArray × Bool) := mapmakerref06_Get.l0 k l0 a1 0
theorem mapmakerref06_Get.mono_l : ∀ k, (∀ y0 y1 y2, LeO (mapmakerref06_Get.l0 k y0 y1 y2) (mapmakerref06_Get.l0 (k + 1) y0 y1 y2))
  | 0 => fun _ _ _ r h => by simp [mapmakerref06_Get.l0] at h
  | k + 1 => by
    have ih0 := mapmakerref06_Get.mono_l k
    · intro y0 y1 y2
      unfold mapmakerref06_Get.l0
      repeat' first
      | (with_reducible exact ih0 _ _ _)
      | (with_reducible exact LeO.refl _)
      | (with_reducible exact LeO.none _)
      | (with_reducible refine LeO.ite ?_ ?_)
      | (with_reducible refine LeO.bind ?_ (fun _ => ?_))
      | exact ih0 _ _ _
      | exact LeO.none _
      | refine LeO.ite ?_ ?_
      | refine LeO.bind ?_ (fun _ => ?_)
theorem mapmakerref06_Get.mono : ∀ a0 a1 k, LeO (mapmakerref06_Get.f k a0 a1) (mapmakerref06_Get.f (k + 1) a0 a1) := by
  intro a0 a1 k
  have ih0 := mapmakerref06_Get.mono_l k
  unfold mapmakerref06_Get.f
  repeat' first
      | (with_reducible exact ih0 _ _ _)
      | (with_reducible exact LeO.refl _)
      | (with_reducible exact LeO.none _)
      | (with_reducible refine LeO.ite ?_ ?_)
      | (with_reducible refine LeO.bind ?_ (fun _ => ?_))
      | exact ih0 _ _ _
      | exact LeO.none _
      | refine LeO.ite ?_ ?_
      | refine LeO.bind ?_ (fun _ => ?_)
set_option maxHeartbeats 8000000 in
set_option maxRecDepth 100000 in
theorem mapmakerref06_Get.calls (k : Nat) (A0 : Option Addr) (c0 : Nat) (l0 : List (S32)) (a1 : ByteArray) (r1 : ByteArray) (r2 : Bool) (w : World) (hr0 : Kd.C k32 w A0 l0.length l0) (hc0 : l0.length ≤ c0) (h : mapmakerref06_Get.f k l0 a1 = some (r1, r2)) :
    Calls Try.prog 31 #[.slice A0 l0.length c0, .string a1] w fun e w' => e = .returned (.tuple #[.string r1, .bool r2]) ∧ Drawn0 w w' := by
  have HR0 := Aside0.mk hr0
  have HC0 := Aside0.mk hc0
  clear hr0 hc0
  have H : (mapmakerref06_Get.l0 k l0 a1 0) = some (r1, r2) := h
  clear h
  have H' := Aside0.mk H
  clear H
  go_enter Try.func31, Try.ntmps31
  go_wp2
  go_loopg [6] k (fun kq v6 w' => ∃ (x6_1 : Int), v6 = .int .i64 x6_1 ∧ Aside0 (mapmakerref06_Get.l0 kq l0 a1 x6_1 = some (r1, r2)) ∧ Aside0 (kq ≤ k) ∧ Drawn0 w w')
  case atStart => exact ⟨(0), (by first | rfl | (simp; done) | (simp [*]; done)), H', ⟨Nat.le_refl _⟩, by repeat (first | exact Drawn0.refl _ | apply Drawn0.step)⟩
  case round =>
    clear H'
    try clear p2
    obtain ⟨x6_1, rfl, HA, HK1, ⟨m1, rfl⟩⟩ := hrel
    cases gk with
    | zero => exact absurd HA.out (by simp [mapmakerref06_Get.l0])
    | succ k1 =>
      have H := HA.out
      clear HA
      simp only [mapmakerref06_Get.l0] at H
      by_cases c3 : x6_1 < (l0.length : Int)
      · rw [if_pos c3] at H
        have c3b0 : decide (x6_1 < (l0.length : Int)) = true := decide_eq_true c3
        clear c3
        by_cases c4 : 0 ≤ x6_1
        · rw [if_pos c4] at H
          have c4b0 : decide (0 ≤ x6_1) = true := decide_eq_true c4
          clear c4
          by_cases c5 : ((rd_T32 l0 x6_1).f0).toList = a1.toList
          · rw [if_pos c5] at H
            have c5b0 : (((rd_T32 l0 x6_1).f0).toList == a1.toList) = true := beq_iff_eq.mpr c5
            have c5b1 : (((rd_T32 l0 x6_1).f0).toList != a1.toList) = false := bne_eq_false_iff_eq.mpr c5
            clear c5
            simp only [Option.some.injEq, Prod.mk.injEq] at H
            obtain ⟨rfl, rfl⟩ := H
            have p155 : 0 ≤ (x6_1 : Int) := of_decide_eq_true (by first | (with_reducible assumption) | assumption)
            have q155 : x6_1 < (l0.length : Int) := of_decide_eq_true (by first | (with_reducible assumption) | assumption)
            obtain ⟨ad155, e155, hx155_0, hx155_1⟩ := at_T32 HR0.out x6_1 p155 q155
            cases e155
            replace p155 := eq_true p155
            replace q155 := eq_true q155
            have p156 : 0 ≤ (x6_1 : Int) := of_decide_eq_true (by first | (with_reducible assumption) | assumption)
            have q156 : x6_1 < (l0.length : Int) := of_decide_eq_true (by first | (with_reducible assumption) | assumption)
            obtain ⟨ad156, e156, hx156_0, hx156_1⟩ := at_T32 HR0.out x6_1 p156 q156
            obtain rfl : ad155 = ad156 := (by injection e156)
            replace p156 := eq_true p156
            replace q156 := eq_true q156
            go_wp2
            go_ret2
            exact ⟨by first | rfl | (simp; done) | (simp [*]; done), by repeat (first | exact Drawn0.refl _ | apply Drawn0.step)⟩
          · rw [if_neg c5] at H
            have c5b0 : (((rd_T32 l0 x6_1).f0).toList == a1.toList) = false := beq_eq_false_iff_ne.mpr c5
            have c5b1 : (((rd_T32 l0 x6_1).f0).toList != a1.toList) = true := bne_iff_ne.mpr c5
            have H' := Aside0.mk H
            clear H
            have p155 : 0 ≤ (x6_1 : Int) := of_decide_eq_true (by first | (with_reducible assumption) | assumption)
            have q155 : x6_1 < (l0.length : Int) := of_decide_eq_true (by first | (with_reducible assumption) | assumption)
            obtain ⟨ad155, e155, hx155_0, hx155_1⟩ := at_T32 HR0.out x6_1 p155 q155
            cases e155
            replace p155 := eq_true p155
            replace q155 := eq_true q155
            go_wp2
            go_roundg k1
            case measure => have := HK1.out; omega
            case rel => exact ⟨(wrap64 (x6_1 + 1)), (by first | rfl | (simp; done) | (simp [*]; done)), H', ⟨by have := HK1.out; omega⟩, by repeat (first | exact Drawn0.refl _ | apply Drawn0.step)⟩
        · rw [if_neg c4] at H
          exact absurd H (by simp)
      · rw [if_neg c3] at H
        have c3b0 : decide (x6_1 < (l0.length : Int)) = false := decide_eq_false c3
        clear c3
        simp only [Option.some.injEq, Prod.mk.injEq] at H
        obtain ⟨rfl, rfl⟩ := H
        go_wp2
        go_ret2
        exact ⟨by first | rfl | (simp; done) | (simp [*]; done), by repeat (first | exact Drawn0.refl _ | apply Drawn0.step)⟩

/-! ### mapmakerref18_is: function 27 -/
def mapmakerref18_is.f (k : Nat) (l0 : List (S32)) (a1 : ByteArray) (a2 : ByteArray) : Option (Bool) := (mapmakerref06_Get.f k l0 a1).bind fun bt157 => (if bt157.2 = true then (some (bt157.1.toList == a2.toList)) else (some false))
theorem mapmakerref18_is.mono : ∀ a0 a1 a2 k, LeO (mapmakerref18_is.f k a0 a1 a2) (mapmakerref18_is.f (k + 1) a0 a1 a2) := by
  intro a0 a1 a2 k
  unfold mapmakerref18_is.f
  repeat' first
      | (with_reducible exact mapmakerref06_Get.mono _ _ _)
      | (with_reducible exact LeO.refl _)
      | (with_reducible exact LeO.none _)
      | (with_reducible refine LeO.ite ?_ ?_)
      | (with_reducible refine LeO.bind ?_ (fun _ => ?_))
      | exact mapmakerref06_Get.mono _ _ _
      | exact LeO.none _
      | refine LeO.ite ?_ ?_
      | refine LeO.bind ?_ (fun _ => ?_)
set_option maxHeartbeats 8000000 in
set_option maxRecDepth 100000 in
theorem mapmakerref18_is.calls (k : Nat) (A0 : Option Addr) (c0 : Nat) (l0 : List (S32)) (a1 : ByteArray) (a2 : ByteArray) (r : Bool) (w : World) (hr0 : Kd.C k32 w A0 l0.length l0) (hc0 : l0.length ≤ c0) (h : mapmakerref18_is.f k l0 a1 a2 = some r) :
    Calls Try.prog 27 #[.slice A0 l0.length c0, .string a1, .string a2] w fun e w' => e = .returned (.bool r) ∧ Drawn0 w w' := by
  have HR0 := Aside0.mk hr0
  have HC0 := Aside0.mk hc0
  clear hr0 hc0
  have H : ((mapmakerref06_Get.f k l0 a1).bind fun bt157 => (if bt157.2 = true then (some (bt157.1.toList == a2.toList)) else (some false))) = some r := h
  clear h
  replace H := Option.bind_eq_some_iff.mp H
  obtain ⟨⟨t157, t158⟩, A40, H⟩ := H
  replace H : (if t158 = true then (some (t157.toList == a2.toList)) else (some false)) = some r := H
  have A4 := Aside0.mk A40
  clear A40
  by_cases c5 : t158 = true
  · subst c5
    have H1 : (some (t157.toList == a2.toList)) = some r := by rw [if_pos rfl] at H; exact H
    clear H
    have H := H1
    clear H1
    obtain rfl := Option.some.inj H
    go_enter Try.func27, Try.ntmps27
    go_wp2_with (first | ((with_reducible refine gate_callee (f := 31) rfl ?_); refine goesL_ (some 12) rfl rfl Try.func31 (by kernel_rfl) rfl #[.slice A0 l0.length c0, .string a1] rfl (by (try simp only [List.map_toArray, List.map_cons, List.map_nil]); first | done | rfl | (simp only [List.length_drop, List.length_take]; rfl)) ?_; (with_reducible refine (mapmakerref06_Get.calls k _ _ l0 a1 t157 true _ ?side1 ?side2 A4.out).mono ?_); (case side1 => repeat (first | exact HR0.out | (with_reducible refine Kd.C_alloc ?_ _) | (with_reducible refine Kd.C_drewN ?_ _) | (with_reducible refine Kd.C_drew ?_))); (case side2 => exact HC0.out); rintro e w' ⟨rfl, ⟨nd, rfl⟩⟩; refine ⟨_, rfl, ?_⟩))
    go_ret
    exact ⟨by first | rfl | (simp; done) | (simp [*]; done), by repeat (first | exact Drawn0.refl _ | apply Drawn0.step)⟩
  · replace c5 := Bool.eq_false_iff.mpr c5
    subst c5
    have H1 : (some false) = some r := by rw [if_neg (show ¬ (false = true) by decide)] at H; exact H
    clear H
    have H := H1
    clear H1
    obtain rfl := Option.some.inj H
    go_enter Try.func27, Try.ntmps27
    go_wp2_with (first | ((with_reducible refine gate_callee (f := 31) rfl ?_); refine goesL_ (some 12) rfl rfl Try.func31 (by kernel_rfl) rfl #[.slice A0 l0.length c0, .string a1] rfl (by (try simp only [List.map_toArray, List.map_cons, List.map_nil]); first | done | rfl | (simp only [List.length_drop, List.length_take]; rfl)) ?_; (with_reducible refine (mapmakerref06_Get.calls k _ _ l0 a1 t157 false _ ?side1 ?side2 A4.out).mono ?_); (case side1 => repeat (first | exact HR0.out | (with_reducible refine Kd.C_alloc ?_ _) | (with_reducible refine Kd.C_drewN ?_ _) | (with_reducible refine Kd.C_drew ?_))); (case side2 => exact HC0.out); rintro e w' ⟨rfl, ⟨nd, rfl⟩⟩; refine ⟨_, rfl, ?_⟩))
    go_ret
    exact ⟨by first | rfl | (simp; done) | (simp [*]; done), by repeat (first | exact Drawn0.refl _ | apply Drawn0.step)⟩

/-! ### mapmakerref18_has: function 28 -/
def mapmakerref18_has.f (k : Nat) (l0 : List (S32)) (a1 : ByteArray) : Option (Bool) := (mapmakerref06_Get.f k l0 a1).bind fun bt159 => (some bt159.2)
theorem mapmakerref18_has.mono : ∀ a0 a1 k, LeO (mapmakerref18_has.f k a0 a1) (mapmakerref18_has.f (k + 1) a0 a1) := by
  intro a0 a1 k
  unfold mapmakerref18_has.f
  repeat' first
      | (with_reducible exact mapmakerref06_Get.mono _ _ _)
      | (with_reducible exact LeO.refl _)
      | (with_reducible exact LeO.none _)
      | (with_reducible refine LeO.ite ?_ ?_)
      | (with_reducible refine LeO.bind ?_ (fun _ => ?_))
      | exact mapmakerref06_Get.mono _ _ _
      | exact LeO.none _
      | refine LeO.ite ?_ ?_
      | refine LeO.bind ?_ (fun _ => ?_)
set_option maxHeartbeats 8000000 in
set_option maxRecDepth 100000 in
theorem mapmakerref18_has.calls (k : Nat) (A0 : Option Addr) (c0 : Nat) (l0 : List (S32)) (a1 : ByteArray) (r : Bool) (w : World) (hr0 : Kd.C k32 w A0 l0.length l0) (hc0 : l0.length ≤ c0) (h : mapmakerref18_has.f k l0 a1 = some r) :
    Calls Try.prog 28 #[.slice A0 l0.length c0, .string a1] w fun e w' => e = .returned (.bool r) ∧ Drawn0 w w' := by
  have HR0 := Aside0.mk hr0
  have HC0 := Aside0.mk hc0
  clear hr0 hc0
  have H : ((mapmakerref06_Get.f k l0 a1).bind fun bt159 => (some bt159.2)) = some r := h
  clear h
  replace H := Option.bind_eq_some_iff.mp H
  obtain ⟨⟨t159, t160⟩, A30, H⟩ := H
  replace H : (some t160) = some r := H
  have A3 := Aside0.mk A30
  clear A30
  obtain rfl := Option.some.inj H
  go_enter Try.func28, Try.ntmps28
  go_wp2_with (first | ((with_reducible refine gate_callee (f := 31) rfl ?_); refine goesL_ (some 10) rfl rfl Try.func31 (by kernel_rfl) rfl #[.slice A0 l0.length c0, .string a1] rfl (by (try simp only [List.map_toArray, List.map_cons, List.map_nil]); first | done | rfl | (simp only [List.length_drop, List.length_take]; rfl)) ?_; (with_reducible refine (mapmakerref06_Get.calls k _ _ l0 a1 t159 t160 _ ?side1 ?side2 A3.out).mono ?_); (case side1 => repeat (first | exact HR0.out | (with_reducible refine Kd.C_alloc ?_ _) | (with_reducible refine Kd.C_drewN ?_ _) | (with_reducible refine Kd.C_drew ?_))); (case side2 => exact HC0.out); rintro e w' ⟨rfl, ⟨nd, rfl⟩⟩; refine ⟨_, rfl, ?_⟩))
  go_ret
  exact ⟨by first | rfl | (simp; done) | (simp [*]; done), by repeat (first | exact Drawn0.refl _ | apply Drawn0.step)⟩

/-! ### mapmakerref18_Class: function 16 -/
def mapmakerref18_Class.f (k : Nat) (l0 : List (S32)) : Option (Int) := (mapmakerref18_is.f k l0 (⟨#[104, 105, 103, 104, 119, 97, 121]⟩ : ByteArray) (⟨#[109, 111, 116, 111, 114, 119, 97, 121]⟩ : ByteArray)).bind fun t161 => (if t161 = true then (some 1) else ((mapmakerref18_is.f k l0 (⟨#[104, 105, 103, 104, 119, 97, 121]⟩ : ByteArray) (⟨#[112, 114, 105, 109, 97, 114, 121]⟩ : ByteArray)).bind fun t162 => (if t162 = true then (some 2) else ((mapmakerref18_is.f k l0 (⟨#[104, 105, 103, 104, 119, 97, 121]⟩ : ByteArray) (⟨#[115, 101, 99, 111, 110, 100, 97, 114, 121]⟩ : ByteArray)).bind fun t163 => (if t163 = true then (some 3) else ((mapmakerref18_is.f k l0 (⟨#[104, 105, 103, 104, 119, 97, 121]⟩ : ByteArray) (⟨#[114, 101, 115, 105, 100, 101, 110, 116, 105, 97, 108]⟩ : ByteArray)).bind fun t164 => (if t164 = true then (some 4) else ((mapmakerref18_is.f k l0 (⟨#[104, 105, 103, 104, 119, 97, 121]⟩ : ByteArray) (⟨#[116, 114, 97, 99, 107]⟩ : ByteArray)).bind fun t165 => (if t165 = true then (some 5) else ((mapmakerref18_has.f k l0 (⟨#[104, 105, 103, 104, 119, 97, 121]⟩ : ByteArray)).bind fun t166 => (if t166 = true then (some 0) else ((mapmakerref18_is.f k l0 (⟨#[114, 111, 117, 116, 101]⟩ : ByteArray) (⟨#[102, 101, 114, 114, 121]⟩ : ByteArray)).bind fun t167 => (if t167 = true then (some 6) else (some 0))))))))))))))
theorem mapmakerref18_Class.mono : ∀ a0 k, LeO (mapmakerref18_Class.f k a0) (mapmakerref18_Class.f (k + 1) a0) := by
  intro a0 k
  unfold mapmakerref18_Class.f
  repeat' first
      | (with_reducible exact mapmakerref18_has.mono _ _ _)
      | (with_reducible exact mapmakerref18_is.mono _ _ _ _)
      | (with_reducible exact LeO.refl _)
      | (with_reducible exact LeO.none _)
      | (with_reducible refine LeO.ite ?_ ?_)
      | (with_reducible refine LeO.bind ?_ (fun _ => ?_))
      | exact mapmakerref18_has.mono _ _ _
      | exact mapmakerref18_is.mono _ _ _ _
      | exact LeO.none _
      | refine LeO.ite ?_ ?_
      | refine LeO.bind ?_ (fun _ => ?_)
set_option maxHeartbeats 8000000 in
set_option maxRecDepth 100000 in
theorem mapmakerref18_Class.calls (k : Nat) (A0 : Option Addr) (c0 : Nat) (l0 : List (S32)) (r : Int) (w : World) (hr0 : Kd.C k32 w A0 l0.length l0) (hc0 : l0.length ≤ c0) (h : mapmakerref18_Class.f k l0 = some r) :
    Calls Try.prog 16 #[.slice A0 l0.length c0] w fun e w' => e = .returned (.int .i64 r) ∧ Drawn0 w w' := by
  have HR0 := Aside0.mk hr0
  have HC0 := Aside0.mk hc0
  clear hr0 hc0
  have H : ((mapmakerref18_is.f k l0 (⟨#[104, 105, 103, 104, 119, 97, 121]⟩ : ByteArray) (⟨#[109, 111, 116, 111, 114, 119, 97, 121]⟩ : ByteArray)).bind fun t161 => (if t161 = true then (some 1) else ((mapmakerref18_is.f k l0 (⟨#[104, 105, 103, 104, 119, 97, 121]⟩ : ByteArray) (⟨#[112, 114, 105, 109, 97, 114, 121]⟩ : ByteArray)).bind fun t162 => (if t162 = true then (some 2) else ((mapmakerref18_is.f k l0 (⟨#[104, 105, 103, 104, 119, 97, 121]⟩ : ByteArray) (⟨#[115, 101, 99, 111, 110, 100, 97, 114, 121]⟩ : ByteArray)).bind fun t163 => (if t163 = true then (some 3) else ((mapmakerref18_is.f k l0 (⟨#[104, 105, 103, 104, 119, 97, 121]⟩ : ByteArray) (⟨#[114, 101, 115, 105, 100, 101, 110, 116, 105, 97, 108]⟩ : ByteArray)).bind fun t164 => (if t164 = true then (some 4) else ((mapmakerref18_is.f k l0 (⟨#[104, 105, 103, 104, 119, 97, 121]⟩ : ByteArray) (⟨#[116, 114, 97, 99, 107]⟩ : ByteArray)).bind fun t165 => (if t165 = true then (some 5) else ((mapmakerref18_has.f k l0 (⟨#[104, 105, 103, 104, 119, 97, 121]⟩ : ByteArray)).bind fun t166 => (if t166 = true then (some 0) else ((mapmakerref18_is.f k l0 (⟨#[114, 111, 117, 116, 101]⟩ : ByteArray) (⟨#[102, 101, 114, 114, 121]⟩ : ByteArray)).bind fun t167 => (if t167 = true then (some 6) else (some 0))))))))))))))) = some r := h
  clear h
  replace H := Option.bind_eq_some_iff.mp H
  obtain ⟨t161, A20, H⟩ := H
  replace H : (if t161 = true then (some 1) else ((mapmakerref18_is.f k l0 (⟨#[104, 105, 103, 104, 119, 97, 121]⟩ : ByteArray) (⟨#[112, 114, 105, 109, 97, 114, 121]⟩ : ByteArray)).bind fun t162 => (if t162 = true then (some 2) else ((mapmakerref18_is.f k l0 (⟨#[104, 105, 103, 104, 119, 97, 121]⟩ : ByteArray) (⟨#[115, 101, 99, 111, 110, 100, 97, 114, 121]⟩ : ByteArray)).bind fun t163 => (if t163 = true then (some 3) else ((mapmakerref18_is.f k l0 (⟨#[104, 105, 103, 104, 119, 97, 121]⟩ : ByteArray) (⟨#[114, 101, 115, 105, 100, 101, 110, 116, 105, 97, 108]⟩ : ByteArray)).bind fun t164 => (if t164 = true then (some 4) else ((mapmakerref18_is.f k l0 (⟨#[104, 105, 103, 104, 119, 97, 121]⟩ : ByteArray) (⟨#[116, 114, 97, 99, 107]⟩ : ByteArray)).bind fun t165 => (if t165 = true then (some 5) else ((mapmakerref18_has.f k l0 (⟨#[104, 105, 103, 104, 119, 97, 121]⟩ : ByteArray)).bind fun t166 => (if t166 = true then (some 0) else ((mapmakerref18_is.f k l0 (⟨#[114, 111, 117, 116, 101]⟩ : ByteArray) (⟨#[102, 101, 114, 114, 121]⟩ : ByteArray)).bind fun t167 => (if t167 = true then (some 6) else (some 0)))))))))))))) = some r := H
  have A2 := Aside0.mk A20
  clear A20
  by_cases c3 : t161 = true
  · subst c3
    have H1 : (some 1) = some r := by rw [if_pos rfl] at H; exact H
    clear H
    have H := H1
    clear H1
    obtain rfl := Option.some.inj H
    go_enter Try.func16, Try.ntmps16
    go_wp2_with (first | ((with_reducible refine gate_callee (f := 27) rfl ?_); refine goesL_ (some 4) rfl rfl Try.func27 (by kernel_rfl) rfl #[.slice A0 l0.length c0, .string (⟨#[104, 105, 103, 104, 119, 97, 121]⟩ : ByteArray), .string (⟨#[109, 111, 116, 111, 114, 119, 97, 121]⟩ : ByteArray)] rfl (by (try simp only [List.map_toArray, List.map_cons, List.map_nil]); first | done | rfl | (simp only [List.length_drop, List.length_take]; rfl)) ?_; (with_reducible refine (mapmakerref18_is.calls k _ _ l0 (⟨#[104, 105, 103, 104, 119, 97, 121]⟩ : ByteArray) (⟨#[109, 111, 116, 111, 114, 119, 97, 121]⟩ : ByteArray) true _ ?side1 ?side2 A2.out).mono ?_); (case side1 => repeat (first | exact HR0.out | (with_reducible refine Kd.C_alloc ?_ _) | (with_reducible refine Kd.C_drewN ?_ _) | (with_reducible refine Kd.C_drew ?_))); (case side2 => exact HC0.out); rintro e w' ⟨rfl, ⟨nd, rfl⟩⟩; refine ⟨_, rfl, ?_⟩))
    go_ret
    exact ⟨by first | rfl | (simp; done) | (simp [*]; done), by repeat (first | exact Drawn0.refl _ | apply Drawn0.step)⟩
  · replace c3 := Bool.eq_false_iff.mpr c3
    subst c3
    have H1 : ((mapmakerref18_is.f k l0 (⟨#[104, 105, 103, 104, 119, 97, 121]⟩ : ByteArray) (⟨#[112, 114, 105, 109, 97, 114, 121]⟩ : ByteArray)).bind fun t162 => (if t162 = true then (some 2) else ((mapmakerref18_is.f k l0 (⟨#[104, 105, 103, 104, 119, 97, 121]⟩ : ByteArray) (⟨#[115, 101, 99, 111, 110, 100, 97, 114, 121]⟩ : ByteArray)).bind fun t163 => (if t163 = true then (some 3) else ((mapmakerref18_is.f k l0 (⟨#[104, 105, 103, 104, 119, 97, 121]⟩ : ByteArray) (⟨#[114, 101, 115, 105, 100, 101, 110, 116, 105, 97, 108]⟩ : ByteArray)).bind fun t164 => (if t164 = true then (some 4) else ((mapmakerref18_is.f k l0 (⟨#[104, 105, 103, 104, 119, 97, 121]⟩ : ByteArray) (⟨#[116, 114, 97, 99, 107]⟩ : ByteArray)).bind fun t165 => (if t165 = true then (some 5) else ((mapmakerref18_has.f k l0 (⟨#[104, 105, 103, 104, 119, 97, 121]⟩ : ByteArray)).bind fun t166 => (if t166 = true then (some 0) else ((mapmakerref18_is.f k l0 (⟨#[114, 111, 117, 116, 101]⟩ : ByteArray) (⟨#[102, 101, 114, 114, 121]⟩ : ByteArray)).bind fun t167 => (if t167 = true then (some 6) else (some 0))))))))))))) = some r := by rw [if_neg (show ¬ (false = true) by decide)] at H; exact H
    clear H
    have H := H1
    clear H1
    replace H := Option.bind_eq_some_iff.mp H
    obtain ⟨t162, A40, H⟩ := H
    replace H : (if t162 = true then (some 2) else ((mapmakerref18_is.f k l0 (⟨#[104, 105, 103, 104, 119, 97, 121]⟩ : ByteArray) (⟨#[115, 101, 99, 111, 110, 100, 97, 114, 121]⟩ : ByteArray)).bind fun t163 => (if t163 = true then (some 3) else ((mapmakerref18_is.f k l0 (⟨#[104, 105, 103, 104, 119, 97, 121]⟩ : ByteArray) (⟨#[114, 101, 115, 105, 100, 101, 110, 116, 105, 97, 108]⟩ : ByteArray)).bind fun t164 => (if t164 = true then (some 4) else ((mapmakerref18_is.f k l0 (⟨#[104, 105, 103, 104, 119, 97, 121]⟩ : ByteArray) (⟨#[116, 114, 97, 99, 107]⟩ : ByteArray)).bind fun t165 => (if t165 = true then (some 5) else ((mapmakerref18_has.f k l0 (⟨#[104, 105, 103, 104, 119, 97, 121]⟩ : ByteArray)).bind fun t166 => (if t166 = true then (some 0) else ((mapmakerref18_is.f k l0 (⟨#[114, 111, 117, 116, 101]⟩ : ByteArray) (⟨#[102, 101, 114, 114, 121]⟩ : ByteArray)).bind fun t167 => (if t167 = true then (some 6) else (some 0)))))))))))) = some r := H
    have A4 := Aside0.mk A40
    clear A40
    by_cases c5 : t162 = true
    · subst c5
      have H1 : (some 2) = some r := by rw [if_pos rfl] at H; exact H
      clear H
      have H := H1
      clear H1
      obtain rfl := Option.some.inj H
      go_enter Try.func16, Try.ntmps16
      go_wp2_with (first | ((with_reducible refine gate_callee (f := 27) rfl ?_); refine goesL_ (some 4) rfl rfl Try.func27 (by kernel_rfl) rfl #[.slice A0 l0.length c0, .string (⟨#[104, 105, 103, 104, 119, 97, 121]⟩ : ByteArray), .string (⟨#[109, 111, 116, 111, 114, 119, 97, 121]⟩ : ByteArray)] rfl (by (try simp only [List.map_toArray, List.map_cons, List.map_nil]); first | done | rfl | (simp only [List.length_drop, List.length_take]; rfl)) ?_; (with_reducible refine (mapmakerref18_is.calls k _ _ l0 (⟨#[104, 105, 103, 104, 119, 97, 121]⟩ : ByteArray) (⟨#[109, 111, 116, 111, 114, 119, 97, 121]⟩ : ByteArray) false _ ?side1 ?side2 A2.out).mono ?_); (case side1 => repeat (first | exact HR0.out | (with_reducible refine Kd.C_alloc ?_ _) | (with_reducible refine Kd.C_drewN ?_ _) | (with_reducible refine Kd.C_drew ?_))); (case side2 => exact HC0.out); rintro e w' ⟨rfl, ⟨nd, rfl⟩⟩; refine ⟨_, rfl, ?_⟩) | ((with_reducible refine gate_callee (f := 27) rfl ?_); refine goesL_ (some 6) rfl rfl Try.func27 (by kernel_rfl) rfl #[.slice A0 l0.length c0, .string (⟨#[104, 105, 103, 104, 119, 97, 121]⟩ : ByteArray), .string (⟨#[112, 114, 105, 109, 97, 114, 121]⟩ : ByteArray)] rfl (by (try simp only [List.map_toArray, List.map_cons, List.map_nil]); first | done | rfl | (simp only [List.length_drop, List.length_take]; rfl)) ?_; (with_reducible refine (mapmakerref18_is.calls k _ _ l0 (⟨#[104, 105, 103, 104, 119, 97, 121]⟩ : ByteArray) (⟨#[112, 114, 105, 109, 97, 114, 121]⟩ : ByteArray) true _ ?side1 ?side2 A4.out).mono ?_); (case side1 => repeat (first | exact HR0.out | (with_reducible refine Kd.C_alloc ?_ _) | (with_reducible refine Kd.C_drewN ?_ _) | (with_reducible refine Kd.C_drew ?_))); (case side2 => exact HC0.out); rintro e w' ⟨rfl, ⟨nd, rfl⟩⟩; refine ⟨_, rfl, ?_⟩))
      go_ret
      exact ⟨by first | rfl | (simp; done) | (simp [*]; done), by repeat (first | exact Drawn0.refl _ | apply Drawn0.step)⟩
    · replace c5 := Bool.eq_false_iff.mpr c5
      subst c5
      have H1 : ((mapmakerref18_is.f k l0 (⟨#[104, 105, 103, 104, 119, 97, 121]⟩ : ByteArray) (⟨#[115, 101, 99, 111, 110, 100, 97, 114, 121]⟩ : ByteArray)).bind fun t163 => (if t163 = true then (some 3) else ((mapmakerref18_is.f k l0 (⟨#[104, 105, 103, 104, 119, 97, 121]⟩ : ByteArray) (⟨#[114, 101, 115, 105, 100, 101, 110, 116, 105, 97, 108]⟩ : ByteArray)).bind fun t164 => (if t164 = true then (some 4) else ((mapmakerref18_is.f k l0 (⟨#[104, 105, 103, 104, 119, 97, 121]⟩ : ByteArray) (⟨#[116, 114, 97, 99, 107]⟩ : ByteArray)).bind fun t165 => (if t165 = true then (some 5) else ((mapmakerref18_has.f k l0 (⟨#[104, 105, 103, 104, 119, 97, 121]⟩ : ByteArray)).bind fun t166 => (if t166 = true then (some 0) else ((mapmakerref18_is.f k l0 (⟨#[114, 111, 117, 116, 101]⟩ : ByteArray) (⟨#[102, 101, 114, 114, 121]⟩ : ByteArray)).bind fun t167 => (if t167 = true then (some 6) else (some 0))))))))))) = some r := by rw [if_neg (show ¬ (false = true) by decide)] at H; exact H
      clear H
      have H := H1
      clear H1
      replace H := Option.bind_eq_some_iff.mp H
      obtain ⟨t163, A60, H⟩ := H
      replace H : (if t163 = true then (some 3) else ((mapmakerref18_is.f k l0 (⟨#[104, 105, 103, 104, 119, 97, 121]⟩ : ByteArray) (⟨#[114, 101, 115, 105, 100, 101, 110, 116, 105, 97, 108]⟩ : ByteArray)).bind fun t164 => (if t164 = true then (some 4) else ((mapmakerref18_is.f k l0 (⟨#[104, 105, 103, 104, 119, 97, 121]⟩ : ByteArray) (⟨#[116, 114, 97, 99, 107]⟩ : ByteArray)).bind fun t165 => (if t165 = true then (some 5) else ((mapmakerref18_has.f k l0 (⟨#[104, 105, 103, 104, 119, 97, 121]⟩ : ByteArray)).bind fun t166 => (if t166 = true then (some 0) else ((mapmakerref18_is.f k l0 (⟨#[114, 111, 117, 116, 101]⟩ : ByteArray) (⟨#[102, 101, 114, 114, 121]⟩ : ByteArray)).bind fun t167 => (if t167 = true then (some 6) else (some 0)))))))))) = some r := H
      have A6 := Aside0.mk A60
      clear A60
      by_cases c7 : t163 = true
      · subst c7
        have H1 : (some 3) = some r := by rw [if_pos rfl] at H; exact H
        clear H
        have H := H1
        clear H1
        obtain rfl := Option.some.inj H
        go_enter Try.func16, Try.ntmps16
        go_wp2_with (first | ((with_reducible refine gate_callee (f := 27) rfl ?_); refine goesL_ (some 4) rfl rfl Try.func27 (by kernel_rfl) rfl #[.slice A0 l0.length c0, .string (⟨#[104, 105, 103, 104, 119, 97, 121]⟩ : ByteArray), .string (⟨#[109, 111, 116, 111, 114, 119, 97, 121]⟩ : ByteArray)] rfl (by (try simp only [List.map_toArray, List.map_cons, List.map_nil]); first | done | rfl | (simp only [List.length_drop, List.length_take]; rfl)) ?_; (with_reducible refine (mapmakerref18_is.calls k _ _ l0 (⟨#[104, 105, 103, 104, 119, 97, 121]⟩ : ByteArray) (⟨#[109, 111, 116, 111, 114, 119, 97, 121]⟩ : ByteArray) false _ ?side1 ?side2 A2.out).mono ?_); (case side1 => repeat (first | exact HR0.out | (with_reducible refine Kd.C_alloc ?_ _) | (with_reducible refine Kd.C_drewN ?_ _) | (with_reducible refine Kd.C_drew ?_))); (case side2 => exact HC0.out); rintro e w' ⟨rfl, ⟨nd, rfl⟩⟩; refine ⟨_, rfl, ?_⟩) | ((with_reducible refine gate_callee (f := 27) rfl ?_); refine goesL_ (some 6) rfl rfl Try.func27 (by kernel_rfl) rfl #[.slice A0 l0.length c0, .string (⟨#[104, 105, 103, 104, 119, 97, 121]⟩ : ByteArray), .string (⟨#[112, 114, 105, 109, 97, 114, 121]⟩ : ByteArray)] rfl (by (try simp only [List.map_toArray, List.map_cons, List.map_nil]); first | done | rfl | (simp only [List.length_drop, List.length_take]; rfl)) ?_; (with_reducible refine (mapmakerref18_is.calls k _ _ l0 (⟨#[104, 105, 103, 104, 119, 97, 121]⟩ : ByteArray) (⟨#[112, 114, 105, 109, 97, 114, 121]⟩ : ByteArray) false _ ?side1 ?side2 A4.out).mono ?_); (case side1 => repeat (first | exact HR0.out | (with_reducible refine Kd.C_alloc ?_ _) | (with_reducible refine Kd.C_drewN ?_ _) | (with_reducible refine Kd.C_drew ?_))); (case side2 => exact HC0.out); rintro e w' ⟨rfl, ⟨nd, rfl⟩⟩; refine ⟨_, rfl, ?_⟩) | ((with_reducible refine gate_callee (f := 27) rfl ?_); refine goesL_ (some 8) rfl rfl Try.func27 (by kernel_rfl) rfl #[.slice A0 l0.length c0, .string (⟨#[104, 105, 103, 104, 119, 97, 121]⟩ : ByteArray), .string (⟨#[115, 101, 99, 111, 110, 100, 97, 114, 121]⟩ : ByteArray)] rfl (by (try simp only [List.map_toArray, List.map_cons, List.map_nil]); first | done | rfl | (simp only [List.length_drop, List.length_take]; rfl)) ?_; (with_reducible refine (mapmakerref18_is.calls k _ _ l0 (⟨#[104, 105, 103, 104, 119, 97, 121]⟩ : ByteArray) (⟨#[115, 101, 99, 111, 110, 100, 97, 114, 121]⟩ : ByteArray) true _ ?side1 ?side2 A6.out).mono ?_); (case side1 => repeat (first | exact HR0.out | (with_reducible refine Kd.C_alloc ?_ _) | (with_reducible refine Kd.C_drewN ?_ _) | (with_reducible refine Kd.C_drew ?_))); (case side2 => exact HC0.out); rintro e w' ⟨rfl, ⟨nd, rfl⟩⟩; refine ⟨_, rfl, ?_⟩))
        go_ret
        exact ⟨by first | rfl | (simp; done) | (simp [*]; done), by repeat (first | exact Drawn0.refl _ | apply Drawn0.step)⟩
      · replace c7 := Bool.eq_false_iff.mpr c7
        subst c7
        have H1 : ((mapmakerref18_is.f k l0 (⟨#[104, 105, 103, 104, 119, 97, 121]⟩ : ByteArray) (⟨#[114, 101, 115, 105, 100, 101, 110, 116, 105, 97, 108]⟩ : ByteArray)).bind fun t164 => (if t164 = true then (some 4) else ((mapmakerref18_is.f k l0 (⟨#[104, 105, 103, 104, 119, 97, 121]⟩ : ByteArray) (⟨#[116, 114, 97, 99, 107]⟩ : ByteArray)).bind fun t165 => (if t165 = true then (some 5) else ((mapmakerref18_has.f k l0 (⟨#[104, 105, 103, 104, 119, 97, 121]⟩ : ByteArray)).bind fun t166 => (if t166 = true then (some 0) else ((mapmakerref18_is.f k l0 (⟨#[114, 111, 117, 116, 101]⟩ : ByteArray) (⟨#[102, 101, 114, 114, 121]⟩ : ByteArray)).bind fun t167 => (if t167 = true then (some 6) else (some 0))))))))) = some r := by rw [if_neg (show ¬ (false = true) by decide)] at H; exact H
        clear H
        have H := H1
        clear H1
        replace H := Option.bind_eq_some_iff.mp H
        obtain ⟨t164, A80, H⟩ := H
        replace H : (if t164 = true then (some 4) else ((mapmakerref18_is.f k l0 (⟨#[104, 105, 103, 104, 119, 97, 121]⟩ : ByteArray) (⟨#[116, 114, 97, 99, 107]⟩ : ByteArray)).bind fun t165 => (if t165 = true then (some 5) else ((mapmakerref18_has.f k l0 (⟨#[104, 105, 103, 104, 119, 97, 121]⟩ : ByteArray)).bind fun t166 => (if t166 = true then (some 0) else ((mapmakerref18_is.f k l0 (⟨#[114, 111, 117, 116, 101]⟩ : ByteArray) (⟨#[102, 101, 114, 114, 121]⟩ : ByteArray)).bind fun t167 => (if t167 = true then (some 6) else (some 0)))))))) = some r := H
        have A8 := Aside0.mk A80
        clear A80
        by_cases c9 : t164 = true
        · subst c9
          have H1 : (some 4) = some r := by rw [if_pos rfl] at H; exact H
          clear H
          have H := H1
          clear H1
          obtain rfl := Option.some.inj H
          go_enter Try.func16, Try.ntmps16
          go_wp2_with (first | ((with_reducible refine gate_callee (f := 27) rfl ?_); refine goesL_ (some 4) rfl rfl Try.func27 (by kernel_rfl) rfl #[.slice A0 l0.length c0, .string (⟨#[104, 105, 103, 104, 119, 97, 121]⟩ : ByteArray), .string (⟨#[109, 111, 116, 111, 114, 119, 97, 121]⟩ : ByteArray)] rfl (by (try simp only [List.map_toArray, List.map_cons, List.map_nil]); first | done | rfl | (simp only [List.length_drop, List.length_take]; rfl)) ?_; (with_reducible refine (mapmakerref18_is.calls k _ _ l0 (⟨#[104, 105, 103, 104, 119, 97, 121]⟩ : ByteArray) (⟨#[109, 111, 116, 111, 114, 119, 97, 121]⟩ : ByteArray) false _ ?side1 ?side2 A2.out).mono ?_); (case side1 => repeat (first | exact HR0.out | (with_reducible refine Kd.C_alloc ?_ _) | (with_reducible refine Kd.C_drewN ?_ _) | (with_reducible refine Kd.C_drew ?_))); (case side2 => exact HC0.out); rintro e w' ⟨rfl, ⟨nd, rfl⟩⟩; refine ⟨_, rfl, ?_⟩) | ((with_reducible refine gate_callee (f := 27) rfl ?_); refine goesL_ (some 6) rfl rfl Try.func27 (by kernel_rfl) rfl #[.slice A0 l0.length c0, .string (⟨#[104, 105, 103, 104, 119, 97, 121]⟩ : ByteArray), .string (⟨#[112, 114, 105, 109, 97, 114, 121]⟩ : ByteArray)] rfl (by (try simp only [List.map_toArray, List.map_cons, List.map_nil]); first | done | rfl | (simp only [List.length_drop, List.length_take]; rfl)) ?_; (with_reducible refine (mapmakerref18_is.calls k _ _ l0 (⟨#[104, 105, 103, 104, 119, 97, 121]⟩ : ByteArray) (⟨#[112, 114, 105, 109, 97, 114, 121]⟩ : ByteArray) false _ ?side1 ?side2 A4.out).mono ?_); (case side1 => repeat (first | exact HR0.out | (with_reducible refine Kd.C_alloc ?_ _) | (with_reducible refine Kd.C_drewN ?_ _) | (with_reducible refine Kd.C_drew ?_))); (case side2 => exact HC0.out); rintro e w' ⟨rfl, ⟨nd, rfl⟩⟩; refine ⟨_, rfl, ?_⟩) | ((with_reducible refine gate_callee (f := 27) rfl ?_); refine goesL_ (some 8) rfl rfl Try.func27 (by kernel_rfl) rfl #[.slice A0 l0.length c0, .string (⟨#[104, 105, 103, 104, 119, 97, 121]⟩ : ByteArray), .string (⟨#[115, 101, 99, 111, 110, 100, 97, 114, 121]⟩ : ByteArray)] rfl (by (try simp only [List.map_toArray, List.map_cons, List.map_nil]); first | done | rfl | (simp only [List.length_drop, List.length_take]; rfl)) ?_; (with_reducible refine (mapmakerref18_is.calls k _ _ l0 (⟨#[104, 105, 103, 104, 119, 97, 121]⟩ : ByteArray) (⟨#[115, 101, 99, 111, 110, 100, 97, 114, 121]⟩ : ByteArray) false _ ?side1 ?side2 A6.out).mono ?_); (case side1 => repeat (first | exact HR0.out | (with_reducible refine Kd.C_alloc ?_ _) | (with_reducible refine Kd.C_drewN ?_ _) | (with_reducible refine Kd.C_drew ?_))); (case side2 => exact HC0.out); rintro e w' ⟨rfl, ⟨nd, rfl⟩⟩; refine ⟨_, rfl, ?_⟩) | ((with_reducible refine gate_callee (f := 27) rfl ?_); refine goesL_ (some 10) rfl rfl Try.func27 (by kernel_rfl) rfl #[.slice A0 l0.length c0, .string (⟨#[104, 105, 103, 104, 119, 97, 121]⟩ : ByteArray), .string (⟨#[114, 101, 115, 105, 100, 101, 110, 116, 105, 97, 108]⟩ : ByteArray)] rfl (by (try simp only [List.map_toArray, List.map_cons, List.map_nil]); first | done | rfl | (simp only [List.length_drop, List.length_take]; rfl)) ?_; (with_reducible refine (mapmakerref18_is.calls k _ _ l0 (⟨#[104, 105, 103, 104, 119, 97, 121]⟩ : ByteArray) (⟨#[114, 101, 115, 105, 100, 101, 110, 116, 105, 97, 108]⟩ : ByteArray) true _ ?side1 ?side2 A8.out).mono ?_); (case side1 => repeat (first | exact HR0.out | (with_reducible refine Kd.C_alloc ?_ _) | (with_reducible refine Kd.C_drewN ?_ _) | (with_reducible refine Kd.C_drew ?_))); (case side2 => exact HC0.out); rintro e w' ⟨rfl, ⟨nd, rfl⟩⟩; refine ⟨_, rfl, ?_⟩))
          go_ret
          exact ⟨by first | rfl | (simp; done) | (simp [*]; done), by repeat (first | exact Drawn0.refl _ | apply Drawn0.step)⟩
        · replace c9 := Bool.eq_false_iff.mpr c9
          subst c9
          have H1 : ((mapmakerref18_is.f k l0 (⟨#[104, 105, 103, 104, 119, 97, 121]⟩ : ByteArray) (⟨#[116, 114, 97, 99, 107]⟩ : ByteArray)).bind fun t165 => (if t165 = true then (some 5) else ((mapmakerref18_has.f k l0 (⟨#[104, 105, 103, 104, 119, 97, 121]⟩ : ByteArray)).bind fun t166 => (if t166 = true then (some 0) else ((mapmakerref18_is.f k l0 (⟨#[114, 111, 117, 116, 101]⟩ : ByteArray) (⟨#[102, 101, 114, 114, 121]⟩ : ByteArray)).bind fun t167 => (if t167 = true then (some 6) else (some 0))))))) = some r := by rw [if_neg (show ¬ (false = true) by decide)] at H; exact H
          clear H
          have H := H1
          clear H1
          replace H := Option.bind_eq_some_iff.mp H
          obtain ⟨t165, A100, H⟩ := H
          replace H : (if t165 = true then (some 5) else ((mapmakerref18_has.f k l0 (⟨#[104, 105, 103, 104, 119, 97, 121]⟩ : ByteArray)).bind fun t166 => (if t166 = true then (some 0) else ((mapmakerref18_is.f k l0 (⟨#[114, 111, 117, 116, 101]⟩ : ByteArray) (⟨#[102, 101, 114, 114, 121]⟩ : ByteArray)).bind fun t167 => (if t167 = true then (some 6) else (some 0)))))) = some r := H
          have A10 := Aside0.mk A100
          clear A100
          by_cases c11 : t165 = true
          · subst c11
            have H1 : (some 5) = some r := by rw [if_pos rfl] at H; exact H
            clear H
            have H := H1
            clear H1
            obtain rfl := Option.some.inj H
            go_enter Try.func16, Try.ntmps16
            go_wp2_with (first | ((with_reducible refine gate_callee (f := 27) rfl ?_); refine goesL_ (some 4) rfl rfl Try.func27 (by kernel_rfl) rfl #[.slice A0 l0.length c0, .string (⟨#[104, 105, 103, 104, 119, 97, 121]⟩ : ByteArray), .string (⟨#[109, 111, 116, 111, 114, 119, 97, 121]⟩ : ByteArray)] rfl (by (try simp only [List.map_toArray, List.map_cons, List.map_nil]); first | done | rfl | (simp only [List.length_drop, List.length_take]; rfl)) ?_; (with_reducible refine (mapmakerref18_is.calls k _ _ l0 (⟨#[104, 105, 103, 104, 119, 97, 121]⟩ : ByteArray) (⟨#[109, 111, 116, 111, 114, 119, 97, 121]⟩ : ByteArray) false _ ?side1 ?side2 A2.out).mono ?_); (case side1 => repeat (first | exact HR0.out | (with_reducible refine Kd.C_alloc ?_ _) | (with_reducible refine Kd.C_drewN ?_ _) | (with_reducible refine Kd.C_drew ?_))); (case side2 => exact HC0.out); rintro e w' ⟨rfl, ⟨nd, rfl⟩⟩; refine ⟨_, rfl, ?_⟩) | ((with_reducible refine gate_callee (f := 27) rfl ?_); refine goesL_ (some 6) rfl rfl Try.func27 (by kernel_rfl) rfl #[.slice A0 l0.length c0, .string (⟨#[104, 105, 103, 104, 119, 97, 121]⟩ : ByteArray), .string (⟨#[112, 114, 105, 109, 97, 114, 121]⟩ : ByteArray)] rfl (by (try simp only [List.map_toArray, List.map_cons, List.map_nil]); first | done | rfl | (simp only [List.length_drop, List.length_take]; rfl)) ?_; (with_reducible refine (mapmakerref18_is.calls k _ _ l0 (⟨#[104, 105, 103, 104, 119, 97, 121]⟩ : ByteArray) (⟨#[112, 114, 105, 109, 97, 114, 121]⟩ : ByteArray) false _ ?side1 ?side2 A4.out).mono ?_); (case side1 => repeat (first | exact HR0.out | (with_reducible refine Kd.C_alloc ?_ _) | (with_reducible refine Kd.C_drewN ?_ _) | (with_reducible refine Kd.C_drew ?_))); (case side2 => exact HC0.out); rintro e w' ⟨rfl, ⟨nd, rfl⟩⟩; refine ⟨_, rfl, ?_⟩) | ((with_reducible refine gate_callee (f := 27) rfl ?_); refine goesL_ (some 8) rfl rfl Try.func27 (by kernel_rfl) rfl #[.slice A0 l0.length c0, .string (⟨#[104, 105, 103, 104, 119, 97, 121]⟩ : ByteArray), .string (⟨#[115, 101, 99, 111, 110, 100, 97, 114, 121]⟩ : ByteArray)] rfl (by (try simp only [List.map_toArray, List.map_cons, List.map_nil]); first | done | rfl | (simp only [List.length_drop, List.length_take]; rfl)) ?_; (with_reducible refine (mapmakerref18_is.calls k _ _ l0 (⟨#[104, 105, 103, 104, 119, 97, 121]⟩ : ByteArray) (⟨#[115, 101, 99, 111, 110, 100, 97, 114, 121]⟩ : ByteArray) false _ ?side1 ?side2 A6.out).mono ?_); (case side1 => repeat (first | exact HR0.out | (with_reducible refine Kd.C_alloc ?_ _) | (with_reducible refine Kd.C_drewN ?_ _) | (with_reducible refine Kd.C_drew ?_))); (case side2 => exact HC0.out); rintro e w' ⟨rfl, ⟨nd, rfl⟩⟩; refine ⟨_, rfl, ?_⟩) | ((with_reducible refine gate_callee (f := 27) rfl ?_); refine goesL_ (some 10) rfl rfl Try.func27 (by kernel_rfl) rfl #[.slice A0 l0.length c0, .string (⟨#[104, 105, 103, 104, 119, 97, 121]⟩ : ByteArray), .string (⟨#[114, 101, 115, 105, 100, 101, 110, 116, 105, 97, 108]⟩ : ByteArray)] rfl (by (try simp only [List.map_toArray, List.map_cons, List.map_nil]); first | done | rfl | (simp only [List.length_drop, List.length_take]; rfl)) ?_; (with_reducible refine (mapmakerref18_is.calls k _ _ l0 (⟨#[104, 105, 103, 104, 119, 97, 121]⟩ : ByteArray) (⟨#[114, 101, 115, 105, 100, 101, 110, 116, 105, 97, 108]⟩ : ByteArray) false _ ?side1 ?side2 A8.out).mono ?_); (case side1 => repeat (first | exact HR0.out | (with_reducible refine Kd.C_alloc ?_ _) | (with_reducible refine Kd.C_drewN ?_ _) | (with_reducible refine Kd.C_drew ?_))); (case side2 => exact HC0.out); rintro e w' ⟨rfl, ⟨nd, rfl⟩⟩; refine ⟨_, rfl, ?_⟩) | ((with_reducible refine gate_callee (f := 27) rfl ?_); refine goesL_ (some 12) rfl rfl Try.func27 (by kernel_rfl) rfl #[.slice A0 l0.length c0, .string (⟨#[104, 105, 103, 104, 119, 97, 121]⟩ : ByteArray), .string (⟨#[116, 114, 97, 99, 107]⟩ : ByteArray)] rfl (by (try simp only [List.map_toArray, List.map_cons, List.map_nil]); first | done | rfl | (simp only [List.length_drop, List.length_take]; rfl)) ?_; (with_reducible refine (mapmakerref18_is.calls k _ _ l0 (⟨#[104, 105, 103, 104, 119, 97, 121]⟩ : ByteArray) (⟨#[116, 114, 97, 99, 107]⟩ : ByteArray) true _ ?side1 ?side2 A10.out).mono ?_); (case side1 => repeat (first | exact HR0.out | (with_reducible refine Kd.C_alloc ?_ _) | (with_reducible refine Kd.C_drewN ?_ _) | (with_reducible refine Kd.C_drew ?_))); (case side2 => exact HC0.out); rintro e w' ⟨rfl, ⟨nd, rfl⟩⟩; refine ⟨_, rfl, ?_⟩))
            go_ret
            exact ⟨by first | rfl | (simp; done) | (simp [*]; done), by repeat (first | exact Drawn0.refl _ | apply Drawn0.step)⟩
          · replace c11 := Bool.eq_false_iff.mpr c11
            subst c11
            have H1 : ((mapmakerref18_has.f k l0 (⟨#[104, 105, 103, 104, 119, 97, 121]⟩ : ByteArray)).bind fun t166 => (if t166 = true then (some 0) else ((mapmakerref18_is.f k l0 (⟨#[114, 111, 117, 116, 101]⟩ : ByteArray) (⟨#[102, 101, 114, 114, 121]⟩ : ByteArray)).bind fun t167 => (if t167 = true then (some 6) else (some 0))))) = some r := by rw [if_neg (show ¬ (false = true) by decide)] at H; exact H
            clear H
            have H := H1
            clear H1
            replace H := Option.bind_eq_some_iff.mp H
            obtain ⟨t166, A120, H⟩ := H
            replace H : (if t166 = true then (some 0) else ((mapmakerref18_is.f k l0 (⟨#[114, 111, 117, 116, 101]⟩ : ByteArray) (⟨#[102, 101, 114, 114, 121]⟩ : ByteArray)).bind fun t167 => (if t167 = true then (some 6) else (some 0)))) = some r := H
            have A12 := Aside0.mk A120
            clear A120
            by_cases c13 : t166 = true
            · subst c13
              have H1 : (some 0) = some r := by rw [if_pos rfl] at H; exact H
              clear H
              have H := H1
              clear H1
              obtain rfl := Option.some.inj H
              go_enter Try.func16, Try.ntmps16
              go_wp2_with (first | ((with_reducible refine gate_callee (f := 27) rfl ?_); refine goesL_ (some 4) rfl rfl Try.func27 (by kernel_rfl) rfl #[.slice A0 l0.length c0, .string (⟨#[104, 105, 103, 104, 119, 97, 121]⟩ : ByteArray), .string (⟨#[109, 111, 116, 111, 114, 119, 97, 121]⟩ : ByteArray)] rfl (by (try simp only [List.map_toArray, List.map_cons, List.map_nil]); first | done | rfl | (simp only [List.length_drop, List.length_take]; rfl)) ?_; (with_reducible refine (mapmakerref18_is.calls k _ _ l0 (⟨#[104, 105, 103, 104, 119, 97, 121]⟩ : ByteArray) (⟨#[109, 111, 116, 111, 114, 119, 97, 121]⟩ : ByteArray) false _ ?side1 ?side2 A2.out).mono ?_); (case side1 => repeat (first | exact HR0.out | (with_reducible refine Kd.C_alloc ?_ _) | (with_reducible refine Kd.C_drewN ?_ _) | (with_reducible refine Kd.C_drew ?_))); (case side2 => exact HC0.out); rintro e w' ⟨rfl, ⟨nd, rfl⟩⟩; refine ⟨_, rfl, ?_⟩) | ((with_reducible refine gate_callee (f := 27) rfl ?_); refine goesL_ (some 6) rfl rfl Try.func27 (by kernel_rfl) rfl #[.slice A0 l0.length c0, .string (⟨#[104, 105, 103, 104, 119, 97, 121]⟩ : ByteArray), .string (⟨#[112, 114, 105, 109, 97, 114, 121]⟩ : ByteArray)] rfl (by (try simp only [List.map_toArray, List.map_cons, List.map_nil]); first | done | rfl | (simp only [List.length_drop, List.length_take]; rfl)) ?_; (with_reducible refine (mapmakerref18_is.calls k _ _ l0 (⟨#[104, 105, 103, 104, 119, 97, 121]⟩ : ByteArray) (⟨#[112, 114, 105, 109, 97, 114, 121]⟩ : ByteArray) false _ ?side1 ?side2 A4.out).mono ?_); (case side1 => repeat (first | exact HR0.out | (with_reducible refine Kd.C_alloc ?_ _) | (with_reducible refine Kd.C_drewN ?_ _) | (with_reducible refine Kd.C_drew ?_))); (case side2 => exact HC0.out); rintro e w' ⟨rfl, ⟨nd, rfl⟩⟩; refine ⟨_, rfl, ?_⟩) | ((with_reducible refine gate_callee (f := 27) rfl ?_); refine goesL_ (some 8) rfl rfl Try.func27 (by kernel_rfl) rfl #[.slice A0 l0.length c0, .string (⟨#[104, 105, 103, 104, 119, 97, 121]⟩ : ByteArray), .string (⟨#[115, 101, 99, 111, 110, 100, 97, 114, 121]⟩ : ByteArray)] rfl (by (try simp only [List.map_toArray, List.map_cons, List.map_nil]); first | done | rfl | (simp only [List.length_drop, List.length_take]; rfl)) ?_; (with_reducible refine (mapmakerref18_is.calls k _ _ l0 (⟨#[104, 105, 103, 104, 119, 97, 121]⟩ : ByteArray) (⟨#[115, 101, 99, 111, 110, 100, 97, 114, 121]⟩ : ByteArray) false _ ?side1 ?side2 A6.out).mono ?_); (case side1 => repeat (first | exact HR0.out | (with_reducible refine Kd.C_alloc ?_ _) | (with_reducible refine Kd.C_drewN ?_ _) | (with_reducible refine Kd.C_drew ?_))); (case side2 => exact HC0.out); rintro e w' ⟨rfl, ⟨nd, rfl⟩⟩; refine ⟨_, rfl, ?_⟩) | ((with_reducible refine gate_callee (f := 27) rfl ?_); refine goesL_ (some 10) rfl rfl Try.func27 (by kernel_rfl) rfl #[.slice A0 l0.length c0, .string (⟨#[104, 105, 103, 104, 119, 97, 121]⟩ : ByteArray), .string (⟨#[114, 101, 115, 105, 100, 101, 110, 116, 105, 97, 108]⟩ : ByteArray)] rfl (by (try simp only [List.map_toArray, List.map_cons, List.map_nil]); first | done | rfl | (simp only [List.length_drop, List.length_take]; rfl)) ?_; (with_reducible refine (mapmakerref18_is.calls k _ _ l0 (⟨#[104, 105, 103, 104, 119, 97, 121]⟩ : ByteArray) (⟨#[114, 101, 115, 105, 100, 101, 110, 116, 105, 97, 108]⟩ : ByteArray) false _ ?side1 ?side2 A8.out).mono ?_); (case side1 => repeat (first | exact HR0.out | (with_reducible refine Kd.C_alloc ?_ _) | (with_reducible refine Kd.C_drewN ?_ _) | (with_reducible refine Kd.C_drew ?_))); (case side2 => exact HC0.out); rintro e w' ⟨rfl, ⟨nd, rfl⟩⟩; refine ⟨_, rfl, ?_⟩) | ((with_reducible refine gate_callee (f := 27) rfl ?_); refine goesL_ (some 12) rfl rfl Try.func27 (by kernel_rfl) rfl #[.slice A0 l0.length c0, .string (⟨#[104, 105, 103, 104, 119, 97, 121]⟩ : ByteArray), .string (⟨#[116, 114, 97, 99, 107]⟩ : ByteArray)] rfl (by (try simp only [List.map_toArray, List.map_cons, List.map_nil]); first | done | rfl | (simp only [List.length_drop, List.length_take]; rfl)) ?_; (with_reducible refine (mapmakerref18_is.calls k _ _ l0 (⟨#[104, 105, 103, 104, 119, 97, 121]⟩ : ByteArray) (⟨#[116, 114, 97, 99, 107]⟩ : ByteArray) false _ ?side1 ?side2 A10.out).mono ?_); (case side1 => repeat (first | exact HR0.out | (with_reducible refine Kd.C_alloc ?_ _) | (with_reducible refine Kd.C_drewN ?_ _) | (with_reducible refine Kd.C_drew ?_))); (case side2 => exact HC0.out); rintro e w' ⟨rfl, ⟨nd, rfl⟩⟩; refine ⟨_, rfl, ?_⟩) | ((with_reducible refine gate_callee (f := 28) rfl ?_); refine goesL_ (some 14) rfl rfl Try.func28 (by kernel_rfl) rfl #[.slice A0 l0.length c0, .string (⟨#[104, 105, 103, 104, 119, 97, 121]⟩ : ByteArray)] rfl (by (try simp only [List.map_toArray, List.map_cons, List.map_nil]); first | done | rfl | (simp only [List.length_drop, List.length_take]; rfl)) ?_; (with_reducible refine (mapmakerref18_has.calls k _ _ l0 (⟨#[104, 105, 103, 104, 119, 97, 121]⟩ : ByteArray) true _ ?side1 ?side2 A12.out).mono ?_); (case side1 => repeat (first | exact HR0.out | (with_reducible refine Kd.C_alloc ?_ _) | (with_reducible refine Kd.C_drewN ?_ _) | (with_reducible refine Kd.C_drew ?_))); (case side2 => exact HC0.out); rintro e w' ⟨rfl, ⟨nd, rfl⟩⟩; refine ⟨_, rfl, ?_⟩))
              go_ret
              exact ⟨by first | rfl | (simp; done) | (simp [*]; done), by repeat (first | exact Drawn0.refl _ | apply Drawn0.step)⟩
            · replace c13 := Bool.eq_false_iff.mpr c13
              subst c13
              have H1 : ((mapmakerref18_is.f k l0 (⟨#[114, 111, 117, 116, 101]⟩ : ByteArray) (⟨#[102, 101, 114, 114, 121]⟩ : ByteArray)).bind fun t167 => (if t167 = true then (some 6) else (some 0))) = some r := by rw [if_neg (show ¬ (false = true) by decide)] at H; exact H
              clear H
              have H := H1
              clear H1
              replace H := Option.bind_eq_some_iff.mp H
              obtain ⟨t167, A140, H⟩ := H
              replace H : (if t167 = true then (some 6) else (some 0)) = some r := H
              have A14 := Aside0.mk A140
              clear A140
              by_cases c15 : t167 = true
              · subst c15
                have H1 : (some 6) = some r := by rw [if_pos rfl] at H; exact H
                clear H
                have H := H1
                clear H1
                obtain rfl := Option.some.inj H
                go_enter Try.func16, Try.ntmps16
                go_wp2_with (first | ((with_reducible refine gate_callee (f := 27) rfl ?_); refine goesL_ (some 4) rfl rfl Try.func27 (by kernel_rfl) rfl #[.slice A0 l0.length c0, .string (⟨#[104, 105, 103, 104, 119, 97, 121]⟩ : ByteArray), .string (⟨#[109, 111, 116, 111, 114, 119, 97, 121]⟩ : ByteArray)] rfl (by (try simp only [List.map_toArray, List.map_cons, List.map_nil]); first | done | rfl | (simp only [List.length_drop, List.length_take]; rfl)) ?_; (with_reducible refine (mapmakerref18_is.calls k _ _ l0 (⟨#[104, 105, 103, 104, 119, 97, 121]⟩ : ByteArray) (⟨#[109, 111, 116, 111, 114, 119, 97, 121]⟩ : ByteArray) false _ ?side1 ?side2 A2.out).mono ?_); (case side1 => repeat (first | exact HR0.out | (with_reducible refine Kd.C_alloc ?_ _) | (with_reducible refine Kd.C_drewN ?_ _) | (with_reducible refine Kd.C_drew ?_))); (case side2 => exact HC0.out); rintro e w' ⟨rfl, ⟨nd, rfl⟩⟩; refine ⟨_, rfl, ?_⟩) | ((with_reducible refine gate_callee (f := 27) rfl ?_); refine goesL_ (some 6) rfl rfl Try.func27 (by kernel_rfl) rfl #[.slice A0 l0.length c0, .string (⟨#[104, 105, 103, 104, 119, 97, 121]⟩ : ByteArray), .string (⟨#[112, 114, 105, 109, 97, 114, 121]⟩ : ByteArray)] rfl (by (try simp only [List.map_toArray, List.map_cons, List.map_nil]); first | done | rfl | (simp only [List.length_drop, List.length_take]; rfl)) ?_; (with_reducible refine (mapmakerref18_is.calls k _ _ l0 (⟨#[104, 105, 103, 104, 119, 97, 121]⟩ : ByteArray) (⟨#[112, 114, 105, 109, 97, 114, 121]⟩ : ByteArray) false _ ?side1 ?side2 A4.out).mono ?_); (case side1 => repeat (first | exact HR0.out | (with_reducible refine Kd.C_alloc ?_ _) | (with_reducible refine Kd.C_drewN ?_ _) | (with_reducible refine Kd.C_drew ?_))); (case side2 => exact HC0.out); rintro e w' ⟨rfl, ⟨nd, rfl⟩⟩; refine ⟨_, rfl, ?_⟩) | ((with_reducible refine gate_callee (f := 27) rfl ?_); refine goesL_ (some 8) rfl rfl Try.func27 (by kernel_rfl) rfl #[.slice A0 l0.length c0, .string (⟨#[104, 105, 103, 104, 119, 97, 121]⟩ : ByteArray), .string (⟨#[115, 101, 99, 111, 110, 100, 97, 114, 121]⟩ : ByteArray)] rfl (by (try simp only [List.map_toArray, List.map_cons, List.map_nil]); first | done | rfl | (simp only [List.length_drop, List.length_take]; rfl)) ?_; (with_reducible refine (mapmakerref18_is.calls k _ _ l0 (⟨#[104, 105, 103, 104, 119, 97, 121]⟩ : ByteArray) (⟨#[115, 101, 99, 111, 110, 100, 97, 114, 121]⟩ : ByteArray) false _ ?side1 ?side2 A6.out).mono ?_); (case side1 => repeat (first | exact HR0.out | (with_reducible refine Kd.C_alloc ?_ _) | (with_reducible refine Kd.C_drewN ?_ _) | (with_reducible refine Kd.C_drew ?_))); (case side2 => exact HC0.out); rintro e w' ⟨rfl, ⟨nd, rfl⟩⟩; refine ⟨_, rfl, ?_⟩) | ((with_reducible refine gate_callee (f := 27) rfl ?_); refine goesL_ (some 10) rfl rfl Try.func27 (by kernel_rfl) rfl #[.slice A0 l0.length c0, .string (⟨#[104, 105, 103, 104, 119, 97, 121]⟩ : ByteArray), .string (⟨#[114, 101, 115, 105, 100, 101, 110, 116, 105, 97, 108]⟩ : ByteArray)] rfl (by (try simp only [List.map_toArray, List.map_cons, List.map_nil]); first | done | rfl | (simp only [List.length_drop, List.length_take]; rfl)) ?_; (with_reducible refine (mapmakerref18_is.calls k _ _ l0 (⟨#[104, 105, 103, 104, 119, 97, 121]⟩ : ByteArray) (⟨#[114, 101, 115, 105, 100, 101, 110, 116, 105, 97, 108]⟩ : ByteArray) false _ ?side1 ?side2 A8.out).mono ?_); (case side1 => repeat (first | exact HR0.out | (with_reducible refine Kd.C_alloc ?_ _) | (with_reducible refine Kd.C_drewN ?_ _) | (with_reducible refine Kd.C_drew ?_))); (case side2 => exact HC0.out); rintro e w' ⟨rfl, ⟨nd, rfl⟩⟩; refine ⟨_, rfl, ?_⟩) | ((with_reducible refine gate_callee (f := 27) rfl ?_); refine goesL_ (some 12) rfl rfl Try.func27 (by kernel_rfl) rfl #[.slice A0 l0.length c0, .string (⟨#[104, 105, 103, 104, 119, 97, 121]⟩ : ByteArray), .string (⟨#[116, 114, 97, 99, 107]⟩ : ByteArray)] rfl (by (try simp only [List.map_toArray, List.map_cons, List.map_nil]); first | done | rfl | (simp only [List.length_drop, List.length_take]; rfl)) ?_; (with_reducible refine (mapmakerref18_is.calls k _ _ l0 (⟨#[104, 105, 103, 104, 119, 97, 121]⟩ : ByteArray) (⟨#[116, 114, 97, 99, 107]⟩ : ByteArray) false _ ?side1 ?side2 A10.out).mono ?_); (case side1 => repeat (first | exact HR0.out | (with_reducible refine Kd.C_alloc ?_ _) | (with_reducible refine Kd.C_drewN ?_ _) | (with_reducible refine Kd.C_drew ?_))); (case side2 => exact HC0.out); rintro e w' ⟨rfl, ⟨nd, rfl⟩⟩; refine ⟨_, rfl, ?_⟩) | ((with_reducible refine gate_callee (f := 28) rfl ?_); refine goesL_ (some 14) rfl rfl Try.func28 (by kernel_rfl) rfl #[.slice A0 l0.length c0, .string (⟨#[104, 105, 103, 104, 119, 97, 121]⟩ : ByteArray)] rfl (by (try simp only [List.map_toArray, List.map_cons, List.map_nil]); first | done | rfl | (simp only [List.length_drop, List.length_take]; rfl)) ?_; (with_reducible refine (mapmakerref18_has.calls k _ _ l0 (⟨#[104, 105, 103, 104, 119, 97, 121]⟩ : ByteArray) false _ ?side1 ?side2 A12.out).mono ?_); (case side1 => repeat (first | exact HR0.out | (with_reducible refine Kd.C_alloc ?_ _) | (with_reducible refine Kd.C_drewN ?_ _) | (with_reducible refine Kd.C_drew ?_))); (case side2 => exact HC0.out); rintro e w' ⟨rfl, ⟨nd, rfl⟩⟩; refine ⟨_, rfl, ?_⟩) | (go_at_call 27; (with_reducible refine (mapmakerref18_is.calls k _ _ l0 (⟨#[114, 111, 117, 116, 101]⟩ : ByteArray) (⟨#[102, 101, 114, 114, 121]⟩ : ByteArray) true _ ?side1 ?side2 A14.out).mono ?_); (case side1 => repeat (first | exact HR0.out | (with_reducible refine Kd.C_alloc ?_ _) | (with_reducible refine Kd.C_drewN ?_ _) | (with_reducible refine Kd.C_drew ?_))); (case side2 => exact HC0.out); rintro e w' ⟨rfl, ⟨nd, rfl⟩⟩))
                go_ret
                exact ⟨by first | rfl | (simp; done) | (simp [*]; done), by repeat (first | exact Drawn0.refl _ | apply Drawn0.step)⟩
              · replace c15 := Bool.eq_false_iff.mpr c15
                subst c15
                have H1 : (some 0) = some r := by rw [if_neg (show ¬ (false = true) by decide)] at H; exact H
                clear H
                have H := H1
                clear H1
                obtain rfl := Option.some.inj H
                go_enter Try.func16, Try.ntmps16
                go_wp2_with (first | ((with_reducible refine gate_callee (f := 27) rfl ?_); refine goesL_ (some 4) rfl rfl Try.func27 (by kernel_rfl) rfl #[.slice A0 l0.length c0, .string (⟨#[104, 105, 103, 104, 119, 97, 121]⟩ : ByteArray), .string (⟨#[109, 111, 116, 111, 114, 119, 97, 121]⟩ : ByteArray)] rfl (by (try simp only [List.map_toArray, List.map_cons, List.map_nil]); first | done | rfl | (simp only [List.length_drop, List.length_take]; rfl)) ?_; (with_reducible refine (mapmakerref18_is.calls k _ _ l0 (⟨#[104, 105, 103, 104, 119, 97, 121]⟩ : ByteArray) (⟨#[109, 111, 116, 111, 114, 119, 97, 121]⟩ : ByteArray) false _ ?side1 ?side2 A2.out).mono ?_); (case side1 => repeat (first | exact HR0.out | (with_reducible refine Kd.C_alloc ?_ _) | (with_reducible refine Kd.C_drewN ?_ _) | (with_reducible refine Kd.C_drew ?_))); (case side2 => exact HC0.out); rintro e w' ⟨rfl, ⟨nd, rfl⟩⟩; refine ⟨_, rfl, ?_⟩) | ((with_reducible refine gate_callee (f := 27) rfl ?_); refine goesL_ (some 6) rfl rfl Try.func27 (by kernel_rfl) rfl #[.slice A0 l0.length c0, .string (⟨#[104, 105, 103, 104, 119, 97, 121]⟩ : ByteArray), .string (⟨#[112, 114, 105, 109, 97, 114, 121]⟩ : ByteArray)] rfl (by (try simp only [List.map_toArray, List.map_cons, List.map_nil]); first | done | rfl | (simp only [List.length_drop, List.length_take]; rfl)) ?_; (with_reducible refine (mapmakerref18_is.calls k _ _ l0 (⟨#[104, 105, 103, 104, 119, 97, 121]⟩ : ByteArray) (⟨#[112, 114, 105, 109, 97, 114, 121]⟩ : ByteArray) false _ ?side1 ?side2 A4.out).mono ?_); (case side1 => repeat (first | exact HR0.out | (with_reducible refine Kd.C_alloc ?_ _) | (with_reducible refine Kd.C_drewN ?_ _) | (with_reducible refine Kd.C_drew ?_))); (case side2 => exact HC0.out); rintro e w' ⟨rfl, ⟨nd, rfl⟩⟩; refine ⟨_, rfl, ?_⟩) | ((with_reducible refine gate_callee (f := 27) rfl ?_); refine goesL_ (some 8) rfl rfl Try.func27 (by kernel_rfl) rfl #[.slice A0 l0.length c0, .string (⟨#[104, 105, 103, 104, 119, 97, 121]⟩ : ByteArray), .string (⟨#[115, 101, 99, 111, 110, 100, 97, 114, 121]⟩ : ByteArray)] rfl (by (try simp only [List.map_toArray, List.map_cons, List.map_nil]); first | done | rfl | (simp only [List.length_drop, List.length_take]; rfl)) ?_; (with_reducible refine (mapmakerref18_is.calls k _ _ l0 (⟨#[104, 105, 103, 104, 119, 97, 121]⟩ : ByteArray) (⟨#[115, 101, 99, 111, 110, 100, 97, 114, 121]⟩ : ByteArray) false _ ?side1 ?side2 A6.out).mono ?_); (case side1 => repeat (first | exact HR0.out | (with_reducible refine Kd.C_alloc ?_ _) | (with_reducible refine Kd.C_drewN ?_ _) | (with_reducible refine Kd.C_drew ?_))); (case side2 => exact HC0.out); rintro e w' ⟨rfl, ⟨nd, rfl⟩⟩; refine ⟨_, rfl, ?_⟩) | ((with_reducible refine gate_callee (f := 27) rfl ?_); refine goesL_ (some 10) rfl rfl Try.func27 (by kernel_rfl) rfl #[.slice A0 l0.length c0, .string (⟨#[104, 105, 103, 104, 119, 97, 121]⟩ : ByteArray), .string (⟨#[114, 101, 115, 105, 100, 101, 110, 116, 105, 97, 108]⟩ : ByteArray)] rfl (by (try simp only [List.map_toArray, List.map_cons, List.map_nil]); first | done | rfl | (simp only [List.length_drop, List.length_take]; rfl)) ?_; (with_reducible refine (mapmakerref18_is.calls k _ _ l0 (⟨#[104, 105, 103, 104, 119, 97, 121]⟩ : ByteArray) (⟨#[114, 101, 115, 105, 100, 101, 110, 116, 105, 97, 108]⟩ : ByteArray) false _ ?side1 ?side2 A8.out).mono ?_); (case side1 => repeat (first | exact HR0.out | (with_reducible refine Kd.C_alloc ?_ _) | (with_reducible refine Kd.C_drewN ?_ _) | (with_reducible refine Kd.C_drew ?_))); (case side2 => exact HC0.out); rintro e w' ⟨rfl, ⟨nd, rfl⟩⟩; refine ⟨_, rfl, ?_⟩) | ((with_reducible refine gate_callee (f := 27) rfl ?_); refine goesL_ (some 12) rfl rfl Try.func27 (by kernel_rfl) rfl #[.slice A0 l0.length c0, .string (⟨#[104, 105, 103, 104, 119, 97, 121]⟩ : ByteArray), .string (⟨#[116, 114, 97, 99, 107]⟩ : ByteArray)] rfl (by (try simp only [List.map_toArray, List.map_cons, List.map_nil]); first | done | rfl | (simp only [List.length_drop, List.length_take]; rfl)) ?_; (with_reducible refine (mapmakerref18_is.calls k _ _ l0 (⟨#[104, 105, 103, 104, 119, 97, 121]⟩ : ByteArray) (⟨#[116, 114, 97, 99, 107]⟩ : ByteArray) false _ ?side1 ?side2 A10.out).mono ?_); (case side1 => repeat (first | exact HR0.out | (with_reducible refine Kd.C_alloc ?_ _) | (with_reducible refine Kd.C_drewN ?_ _) | (with_reducible refine Kd.C_drew ?_))); (case side2 => exact HC0.out); rintro e w' ⟨rfl, ⟨nd, rfl⟩⟩; refine ⟨_, rfl, ?_⟩) | ((with_reducible refine gate_callee (f := 28) rfl ?_); refine goesL_ (some 14) rfl rfl Try.func28 (by kernel_rfl) rfl #[.slice A0 l0.length c0, .string (⟨#[104, 105, 103, 104, 119, 97, 121]⟩ : ByteArray)] rfl (by (try simp only [List.map_toArray, List.map_cons, List.map_nil]); first | done | rfl | (simp only [List.length_drop, List.length_take]; rfl)) ?_; (with_reducible refine (mapmakerref18_has.calls k _ _ l0 (⟨#[104, 105, 103, 104, 119, 97, 121]⟩ : ByteArray) false _ ?side1 ?side2 A12.out).mono ?_); (case side1 => repeat (first | exact HR0.out | (with_reducible refine Kd.C_alloc ?_ _) | (with_reducible refine Kd.C_drewN ?_ _) | (with_reducible refine Kd.C_drew ?_))); (case side2 => exact HC0.out); rintro e w' ⟨rfl, ⟨nd, rfl⟩⟩; refine ⟨_, rfl, ?_⟩) | (go_at_call 27; (with_reducible refine (mapmakerref18_is.calls k _ _ l0 (⟨#[114, 111, 117, 116, 101]⟩ : ByteArray) (⟨#[102, 101, 114, 114, 121]⟩ : ByteArray) false _ ?side1 ?side2 A14.out).mono ?_); (case side1 => repeat (first | exact HR0.out | (with_reducible refine Kd.C_alloc ?_ _) | (with_reducible refine Kd.C_drewN ?_ _) | (with_reducible refine Kd.C_drew ?_))); (case side2 => exact HC0.out); rintro e w' ⟨rfl, ⟨nd, rfl⟩⟩))
                go_ret
                exact ⟨by first | rfl | (simp; done) | (simp [*]; done), by repeat (first | exact Drawn0.refl _ | apply Drawn0.step)⟩

/-! ### mapmakerref18_Speed: function 18 -/
def mapmakerref18_Speed.f (a0 : Int) : Option (Int) := (some (([0, 1, 2, 3, 5, 8, 10] : List Int) : List Int)).bind fun y168 => (if a0 < 1 then (some 0) else (if a0 > 6 then (some 0) else (if 0 ≤ a0 then (if a0 < (y168.length : Int) then (some (rd y168 a0)) else (none)) else (none))))
set_option maxHeartbeats 8000000 in
set_option maxRecDepth 100000 in
theorem mapmakerref18_Speed.calls (a0 : Int) (r : Int) (w : World) (h : mapmakerref18_Speed.f a0 = some r) :
    Calls Try.prog 18 #[.int .i64 a0] w fun e w' => e = .returned (.int .i64 r) ∧ Below w.heap.size w w' := by
  have HB := Aside0.mk (Below.refl w.heap.size w)
  have H : ((some (([0, 1, 2, 3, 5, 8, 10] : List Int) : List Int)).bind fun y168 => (if a0 < 1 then (some 0) else (if a0 > 6 then (some 0) else (if 0 ≤ a0 then (if a0 < (y168.length : Int) then (some (rd y168 a0)) else (none)) else (none))))) = some r := h
  clear h
  obtain ⟨y168, hy168⟩ : ∃ y_ : List Int, y_ = (([0, 1, 2, 3, 5, 8, 10] : List Int)) := ⟨_, rfl⟩
  replace H : (if a0 < 1 then (some 0) else (if a0 > 6 then (some 0) else (if 0 ≤ a0 then (if a0 < (y168.length : Int) then (some (rd y168 a0)) else (none)) else (none)))) = some r := by first | (rw [hy168]; with_reducible exact H) | (have H2_ := (Option.bind_some _ _).symm.trans H; rw [hy168]; with_reducible exact H2_) | (have H2_ := (Option.bind_some _ _).symm.trans H; with_reducible exact H2_) | with_reducible exact H | (rw [hy168]; exact H) | exact H
  have Ny168 := Aside0.mk hy168
  clear hy168
  by_cases c2 : a0 < 1
  · rw [if_pos c2] at H
    have c2b0 : decide (a0 < 1) = true := decide_eq_true c2
    clear c2
    obtain rfl := Option.some.inj H
    go_enter Try.func18, Try.ntmps18
    go_wp2_with (first | ((with_reducible refine gate_dst (N := 4) rfl ?_); refine Kd.R_lit (Kd.int .i64) _ 3 ?hg (N := 4) ?hd (xs := ([0, 1, 2, 3, 5, 8, 10] : List Int)) (inner := [.int .i64 0, .int .i64 1, .int .i64 2, .int .i64 3, .int .i64 5, .int .i64 8, .int .i64 10]) (ok := fun _ => True) (okp := fun _ => True) ?hr ?hp (fun _ hk => hk) trivial (Below.refl _ _) (Nat.le_refl _) (by simp) ?_; (case hd => rfl); (case hg => rfl); (case hr => first | (go_simp; done) | (go_simp; rfl)); (case hp => exact (Reps.one (show Kd.M (Kd.int .i64) _ _ _ 0 [.int .i64 0] from rfl) (Reps.one (show Kd.M (Kd.int .i64) _ _ _ 1 [.int .i64 1] from rfl) (Reps.one (show Kd.M (Kd.int .i64) _ _ _ 2 [.int .i64 2] from rfl) (Reps.one (show Kd.M (Kd.int .i64) _ _ _ 3 [.int .i64 3] from rfl) (Reps.one (show Kd.M (Kd.int .i64) _ _ _ 5 [.int .i64 5] from rfl) (Reps.one (show Kd.M (Kd.int .i64) _ _ _ 8 [.int .i64 8] from rfl) (Reps.one (show Kd.M (Kd.int .i64) _ _ _ 10 [.int .i64 10] from rfl) (Reps.none _ _))))))))); intro v169 w3 ho4 hb hg_ hnew_; clear hg_ hnew_; (first | rw [← Ny168.out] at ho4 | (simp only [Int.reduceToNat] at ho4; rw [← Ny168.out] at ho4)); have n0_ := Aside0.mk (Kd.R_lower ho4 (below_size (by repeat (first | (with_reducible first | exact HB.out | apply below_alloc | apply pw_below_drewN | apply below_drew1) | exact HB.out)))); have n1_ := Aside0.mk (below_step (by repeat (first | (with_reducible first | exact HB.out | apply below_alloc | apply pw_below_drewN | apply below_drew1) | exact HB.out)) hb); clear HB; have HO170 := n0_; have HB := n1_; clear n0_ n1_; clear hb ho4))
    go_ret
    exact ⟨by first | rfl | (simp [errW_none, errW_some] <;> rfl) | (simp [*, errW_none, errW_some] <;> rfl), by repeat (first | (with_reducible first | exact HB.out | apply below_alloc | apply pw_below_drewN | apply below_drew1) | exact HB.out)⟩
  · rw [if_neg c2] at H
    have c2b0 : decide (a0 < 1) = false := decide_eq_false c2
    clear c2
    by_cases c5 : a0 > 6
    · rw [if_pos c5] at H
      have c5b0 : decide (6 < a0) = true := decide_eq_true c5
      clear c5
      obtain rfl := Option.some.inj H
      go_enter Try.func18, Try.ntmps18
      go_wp2_with (first | ((with_reducible refine gate_dst (N := 4) rfl ?_); refine Kd.R_lit (Kd.int .i64) _ 3 ?hg (N := 4) ?hd (xs := ([0, 1, 2, 3, 5, 8, 10] : List Int)) (inner := [.int .i64 0, .int .i64 1, .int .i64 2, .int .i64 3, .int .i64 5, .int .i64 8, .int .i64 10]) (ok := fun _ => True) (okp := fun _ => True) ?hr ?hp (fun _ hk => hk) trivial (Below.refl _ _) (Nat.le_refl _) (by simp) ?_; (case hd => rfl); (case hg => rfl); (case hr => first | (go_simp; done) | (go_simp; rfl)); (case hp => exact (Reps.one (show Kd.M (Kd.int .i64) _ _ _ 0 [.int .i64 0] from rfl) (Reps.one (show Kd.M (Kd.int .i64) _ _ _ 1 [.int .i64 1] from rfl) (Reps.one (show Kd.M (Kd.int .i64) _ _ _ 2 [.int .i64 2] from rfl) (Reps.one (show Kd.M (Kd.int .i64) _ _ _ 3 [.int .i64 3] from rfl) (Reps.one (show Kd.M (Kd.int .i64) _ _ _ 5 [.int .i64 5] from rfl) (Reps.one (show Kd.M (Kd.int .i64) _ _ _ 8 [.int .i64 8] from rfl) (Reps.one (show Kd.M (Kd.int .i64) _ _ _ 10 [.int .i64 10] from rfl) (Reps.none _ _))))))))); intro v169 w6 ho7 hb hg_ hnew_; clear hg_ hnew_; (first | rw [← Ny168.out] at ho7 | (simp only [Int.reduceToNat] at ho7; rw [← Ny168.out] at ho7)); have n0_ := Aside0.mk (Kd.R_lower ho7 (below_size (by repeat (first | (with_reducible first | exact HB.out | apply below_alloc | apply pw_below_drewN | apply below_drew1) | exact HB.out)))); have n1_ := Aside0.mk (below_step (by repeat (first | (with_reducible first | exact HB.out | apply below_alloc | apply pw_below_drewN | apply below_drew1) | exact HB.out)) hb); clear HB; have HO170 := n0_; have HB := n1_; clear n0_ n1_; clear hb ho7))
      go_ret
      exact ⟨by first | rfl | (simp [errW_none, errW_some] <;> rfl) | (simp [*, errW_none, errW_some] <;> rfl), by repeat (first | (with_reducible first | exact HB.out | apply below_alloc | apply pw_below_drewN | apply below_drew1) | exact HB.out)⟩
    · rw [if_neg c5] at H
      have c5b0 : decide (6 < a0) = false := decide_eq_false c5
      clear c5
      by_cases c8 : 0 ≤ a0
      · rw [if_pos c8] at H
        have c8b0 : decide (0 ≤ a0) = true := decide_eq_true c8
        clear c8
        by_cases c9 : a0 < (y168.length : Int)
        · rw [if_pos c9] at H
          have c9b0 : decide (a0 < (y168.length : Int)) = true := decide_eq_true c9
          clear c9
          obtain rfl := Option.some.inj H
          go_enter Try.func18, Try.ntmps18
          go_wp2_with (first | ((with_reducible refine gate_dst (N := 4) rfl ?_); refine Kd.R_lit (Kd.int .i64) _ 3 ?hg (N := 4) ?hd (xs := ([0, 1, 2, 3, 5, 8, 10] : List Int)) (inner := [.int .i64 0, .int .i64 1, .int .i64 2, .int .i64 3, .int .i64 5, .int .i64 8, .int .i64 10]) (ok := fun _ => True) (okp := fun _ => True) ?hr ?hp (fun _ hk => hk) trivial (Below.refl _ _) (Nat.le_refl _) (by simp) ?_; (case hd => rfl); (case hg => rfl); (case hr => first | (go_simp; done) | (go_simp; rfl)); (case hp => exact (Reps.one (show Kd.M (Kd.int .i64) _ _ _ 0 [.int .i64 0] from rfl) (Reps.one (show Kd.M (Kd.int .i64) _ _ _ 1 [.int .i64 1] from rfl) (Reps.one (show Kd.M (Kd.int .i64) _ _ _ 2 [.int .i64 2] from rfl) (Reps.one (show Kd.M (Kd.int .i64) _ _ _ 3 [.int .i64 3] from rfl) (Reps.one (show Kd.M (Kd.int .i64) _ _ _ 5 [.int .i64 5] from rfl) (Reps.one (show Kd.M (Kd.int .i64) _ _ _ 8 [.int .i64 8] from rfl) (Reps.one (show Kd.M (Kd.int .i64) _ _ _ 10 [.int .i64 10] from rfl) (Reps.none _ _))))))))); intro v169 w10 ho11 hb hg_ hnew_; clear hg_ hnew_; (first | rw [← Ny168.out] at ho11 | (simp only [Int.reduceToNat] at ho11; rw [← Ny168.out] at ho11)); have n0_ := Aside0.mk (Kd.R_lower ho11 (below_size (by repeat (first | (with_reducible first | exact HB.out | apply below_alloc | apply pw_below_drewN | apply below_drew1) | exact HB.out)))); have n1_ := Aside0.mk (below_step (by repeat (first | (with_reducible first | exact HB.out | apply below_alloc | apply pw_below_drewN | apply below_drew1) | exact HB.out)) hb); clear HB; have HO170 := n0_; have HB := n1_; clear n0_ n1_; clear hb ho11; obtain ⟨Ao12, co12, eo12⟩ := Kd.R_slice HO170.out; subst eo12; have p171 : 0 ≤ (a0 : Int) := of_decide_eq_true (by first | (with_reducible assumption) | assumption); have q171 : a0 < (y168.length : Int) := of_decide_eq_true (by first | (with_reducible assumption) | assumption); obtain ⟨ad171, e171, hx171_0⟩ := Kd.at_int (Kd.R_reads' HO170.out).2.2 a0 p171 q171; cases e171; replace p171 := eq_true p171; replace q171 := eq_true q171))
          go_ret
          exact ⟨by first | rfl | (simp [errW_none, errW_some] <;> rfl) | (simp [*, errW_none, errW_some] <;> rfl), by repeat (first | (with_reducible first | exact HB.out | apply below_alloc | apply pw_below_drewN | apply below_drew1) | exact HB.out)⟩
        · rw [if_neg c9] at H
          exact absurd H (by simp)
      · rw [if_neg c8] at H
        exact absurd H (by simp)

/-! ### classify_Oneway: function 19 -/
mutual
def classify_Oneway.j0 : Nat → ByteArray → Bool → Bool → Option (Int)
  | 0, _, _, _ => none
  | k + 1, x3, x4, x10 => if x10 = true then (some 1) else (if x4 = true then (classify_Oneway.j1 k x3 x4 (x3.toList == ([121, 101, 115] : List UInt8))) else (classify_Oneway.j1 k x3 x4 false))
def classify_Oneway.j1 : Nat → ByteArray → Bool → Bool → Option (Int)
  | 0, _, _, _ => none
  | k + 1, x3, x4, x17 => if x17 = true then (some 1) else (if x4 = true then (if x3.toList = ([45, 49] : List UInt8) then (some (-1)) else (some 0)) else (some 0))
end
def classify_Oneway.f (k : Nat) (l0 : List (S32)) : Option (Int) := (tags_Get.f l0 (⟨#[111, 110, 101, 119, 97, 121]⟩ : ByteArray)).bind fun bt172 => (if bt172.2 = true then (classify_Oneway.j0 k bt172.1 bt172.2 false) else ((classify_is.f l0 (⟨#[104, 105, 103, 104, 119, 97, 121]⟩ : ByteArray) (⟨#[109, 111, 116, 111, 114, 119, 97, 121]⟩ : ByteArray)).bind fun t174 => (classify_Oneway.j0 k bt172.1 bt172.2 t174)))
theorem classify_Oneway.mono_l : ∀ k, (∀ y0 y1 y2, LeO (classify_Oneway.j0 k y0 y1 y2) (classify_Oneway.j0 (k + 1) y0 y1 y2)) ∧ (∀ y0 y1 y2, LeO (classify_Oneway.j1 k y0 y1 y2) (classify_Oneway.j1 (k + 1) y0 y1 y2))
  | 0 => ⟨fun _ _ _ r h => by simp [classify_Oneway.j0] at h, fun _ _ _ r h => by simp [classify_Oneway.j1] at h⟩
  | k + 1 => by
    obtain ⟨ih0, ih1⟩ := classify_Oneway.mono_l k
    refine ⟨?_, ?_⟩
    · intro y0 y1 y2
      unfold classify_Oneway.j0
      repeat' first
      | (with_reducible exact ih0 _ _ _)
      | (with_reducible exact ih1 _ _ _)
      | (with_reducible exact LeO.refl _)
      | (with_reducible exact LeO.none _)
      | (with_reducible refine LeO.ite ?_ ?_)
      | (with_reducible refine LeO.bind ?_ (fun _ => ?_))
      | exact ih0 _ _ _
      | exact ih1 _ _ _
      | exact LeO.none _
      | refine LeO.ite ?_ ?_
      | refine LeO.bind ?_ (fun _ => ?_)
    · intro y0 y1 y2
      unfold classify_Oneway.j1
      repeat' first
      | (with_reducible exact ih0 _ _ _)
      | (with_reducible exact ih1 _ _ _)
      | (with_reducible exact LeO.refl _)
      | (with_reducible exact LeO.none _)
      | (with_reducible refine LeO.ite ?_ ?_)
      | (with_reducible refine LeO.bind ?_ (fun _ => ?_))
      | exact ih0 _ _ _
      | exact ih1 _ _ _
      | exact LeO.none _
      | refine LeO.ite ?_ ?_
      | refine LeO.bind ?_ (fun _ => ?_)
theorem classify_Oneway.mono : ∀ a0 k, LeO (classify_Oneway.f k a0) (classify_Oneway.f (k + 1) a0) := by
  intro a0 k
  obtain ⟨ih0, ih1⟩ := classify_Oneway.mono_l k
  unfold classify_Oneway.f
  repeat' first
      | (with_reducible exact ih0 _ _ _)
      | (with_reducible exact ih1 _ _ _)
      | (with_reducible exact LeO.refl _)
      | (with_reducible exact LeO.none _)
      | (with_reducible refine LeO.ite ?_ ?_)
      | (with_reducible refine LeO.bind ?_ (fun _ => ?_))
      | exact ih0 _ _ _
      | exact ih1 _ _ _
      | exact LeO.none _
      | refine LeO.ite ?_ ?_
      | refine LeO.bind ?_ (fun _ => ?_)
set_option maxHeartbeats 8000000 in
set_option maxRecDepth 100000 in
theorem classify_Oneway.calls (k : Nat) (A0 : Option Addr) (c0 : Nat) (l0 : List (S32)) (r : Int) (w : World) (hr0 : Kd.C k32 w A0 l0.length l0) (hc0 : l0.length ≤ c0) (h : classify_Oneway.f k l0 = some r) :
    Calls Try.prog 19 #[.slice A0 l0.length c0] w fun e w' => e = .returned (.int .i64 r) ∧ Below w.heap.size w w' := by
  have HR0 := Aside0.mk hr0
  have HC0 := Aside0.mk hc0
  clear hr0 hc0
  have HB := Aside0.mk (Below.refl w.heap.size w)
  have H : ((tags_Get.f l0 (⟨#[111, 110, 101, 119, 97, 121]⟩ : ByteArray)).bind fun bt172 => (if bt172.2 = true then (classify_Oneway.j0 k bt172.1 bt172.2 false) else ((classify_is.f l0 (⟨#[104, 105, 103, 104, 119, 97, 121]⟩ : ByteArray) (⟨#[109, 111, 116, 111, 114, 119, 97, 121]⟩ : ByteArray)).bind fun t174 => (classify_Oneway.j0 k bt172.1 bt172.2 t174)))) = some r := h
  clear h
  replace H := Option.bind_eq_some_iff.mp H
  obtain ⟨⟨t172, t173⟩, A20, H⟩ := H
  replace H : (if t173 = true then (classify_Oneway.j0 k t172 t173 false) else ((classify_is.f l0 (⟨#[104, 105, 103, 104, 119, 97, 121]⟩ : ByteArray) (⟨#[109, 111, 116, 111, 114, 119, 97, 121]⟩ : ByteArray)).bind fun t174 => (classify_Oneway.j0 k t172 t173 t174))) = some r := H
  have A2 := Aside0.mk A20
  clear A20
  have HC3 := Aside0.mk H
  clear H
  go_enter Try.func19, Try.ntmps19
  go_upto_region 2 with (first | ((with_reducible refine gate_callee (f := 30) rfl ?_); refine goesL_ (some 7) rfl rfl Try.func30 (by kernel_rfl) rfl #[.slice A0 l0.length c0, .string (⟨#[111, 110, 101, 119, 97, 121]⟩ : ByteArray)] rfl (by (try simp only [List.map_toArray, List.map_cons, List.map_nil]); first | done | rfl | (simp only [List.length_drop, List.length_take]; rfl)) ?_; (with_reducible refine (tags_Get.calls _ _ l0 (⟨#[111, 110, 101, 119, 97, 121]⟩ : ByteArray) t172 t173 _ ?side1 ?side2 A2.out).mono ?_); (case side1 => repeat (first | exact HR0.out | (with_reducible refine Kd.C_alloc ?_ _) | (with_reducible refine Kd.C_drewN ?_ _) | (with_reducible refine Kd.C_drew ?_))); (case side2 => exact HC0.out); rintro e w4 ⟨rfl, hb⟩; refine ⟨_, rfl, ?_⟩; have n0_ := Aside0.mk (below_step (by repeat (first | (with_reducible first | exact HB.out | apply below_alloc | apply pw_below_drewN | apply below_drew1) | exact HB.out)) hb); clear HB; have HB := n0_; clear n0_; (try clear hb); (try clear hb2); (try clear hk); (try clear hi)))
  (try simp only [Act.put, List.setIfInBounds_toArray, List.set_cons_zero, List.set_cons_succ])
  go_cut [10] (fun v10 wc => ∃ (kq : Nat) (x10_2 : Bool), v10 = .bool x10_2 ∧ Aside0 (classify_Oneway.j0 kq t172 t173 x10_2 = some r) ∧ Aside0 (kq ≤ k) ∧ Aside0 (Below w.heap.size w wc))
  case first =>
    have H := HC3.out
    clear HC3
    by_cases c5 : t173 = true
    · subst c5
      have H1 : (classify_Oneway.j0 k t172 true false) = some r := by rw [if_pos rfl] at H; exact H
      clear H
      have H := H1
      clear H1
      have H' := Aside0.mk H
      clear H
      go_wp2
      go_meet
      case rel => exact ⟨_, (false), (by first | rfl | (simp; done) | (simp [*]; done)), H', ⟨by first | omega | exact Nat.le_refl _⟩, ⟨by repeat (first | (with_reducible first | exact HB.out | apply below_alloc | apply pw_below_drewN | apply below_drew1) | exact HB.out)⟩⟩
    · replace c5 := Bool.eq_false_iff.mpr c5
      subst c5
      have H1 : ((classify_is.f l0 (⟨#[104, 105, 103, 104, 119, 97, 121]⟩ : ByteArray) (⟨#[109, 111, 116, 111, 114, 119, 97, 121]⟩ : ByteArray)).bind fun t174 => (classify_Oneway.j0 k t172 false t174)) = some r := by rw [if_neg (show ¬ (false = true) by decide)] at H; exact H
      clear H
      have H := H1
      clear H1
      replace H := Option.bind_eq_some_iff.mp H
      obtain ⟨t174, A60, H⟩ := H
      replace H : (classify_Oneway.j0 k t172 false t174) = some r := H
      have A6 := Aside0.mk A60
      clear A60
      have H' := Aside0.mk H
      clear H
      go_wp2_with (first | (go_at_call 25; (with_reducible refine (classify_is.calls _ _ l0 (⟨#[104, 105, 103, 104, 119, 97, 121]⟩ : ByteArray) (⟨#[109, 111, 116, 111, 114, 119, 97, 121]⟩ : ByteArray) t174 _ ?side1 ?side2 A6.out).mono ?_); (case side1 => repeat (first | exact (Kd.C_below HR0.out HB.out) | (with_reducible refine Kd.C_alloc ?_ _) | (with_reducible refine Kd.C_drewN ?_ _) | (with_reducible refine Kd.C_drew ?_))); (case side2 => exact HC0.out); rintro e w7 ⟨rfl, hb⟩; have n0_ := Aside0.mk (below_step (by repeat (first | (with_reducible first | exact HB.out | apply below_alloc | apply pw_below_drewN | apply below_drew1) | exact HB.out)) hb); clear HB; have HB := n0_; clear n0_; (try clear hb); (try clear hb2); (try clear hk); (try clear hi)))
      go_meet
      case rel => exact ⟨_, (t174), (by first | rfl | (simp; done) | (simp [*]; done)), H', ⟨by first | omega | exact Nat.le_refl _⟩, ⟨by repeat (first | (with_reducible first | exact HB.out | apply below_alloc | apply pw_below_drewN | apply below_drew1) | exact HB.out)⟩⟩
  case rest =>
    clear HC3
    try clear c1
    try clear p2
    try clear c3
    try clear c5
    obtain ⟨kq, x10_2, rfl, HA, HJ2, HB⟩ := hcut
    cases kq with
    | zero => exact absurd HA.out (by simp [classify_Oneway.j0])
    | succ kj2 =>
      have H := HA.out
      clear HA
      simp only [classify_Oneway.j0] at H
      by_cases c8 : x10_2 = true
      · subst c8
        have H1 : (some 1) = some r := by rw [if_pos rfl] at H; exact H
        clear H
        have H := H1
        clear H1
        obtain rfl := Option.some.inj H
        go_wp2
        go_ret
        exact ⟨by first | rfl | (simp [errW_none, errW_some] <;> rfl) | (simp [*, errW_none, errW_some] <;> rfl), by repeat (first | (with_reducible first | exact HB.out | apply below_alloc | apply pw_below_drewN | apply below_drew1) | exact HB.out)⟩
      · replace c8 := Bool.eq_false_iff.mpr c8
        subst c8
        have H1 : (if t173 = true then (classify_Oneway.j1 kj2 t172 t173 (t172.toList == ([121, 101, 115] : List UInt8))) else (classify_Oneway.j1 kj2 t172 t173 false)) = some r := by rw [if_neg (show ¬ (false = true) by decide)] at H; exact H
        clear H
        have H := H1
        clear H1
        have HC9 := Aside0.mk H
        clear H
        go_upto_region 3 with (fail)
        go_cut [17] (fun v17 wc => ∃ (kq : Nat) (x17_8 : Bool), v17 = .bool x17_8 ∧ Aside0 (classify_Oneway.j1 kq t172 t173 x17_8 = some r) ∧ Aside0 (kq ≤ kj2) ∧ Aside0 (Below w.heap.size w wc))
        case first =>
          have H := HC9.out
          clear HC9
          by_cases c10 : t173 = true
          · subst c10
            have H1 : (classify_Oneway.j1 kj2 t172 true (t172.toList == ([121, 101, 115] : List UInt8))) = some r := by rw [if_pos rfl] at H; exact H
            clear H
            have H := H1
            clear H1
            have H' := Aside0.mk H
            clear H
            go_wp2
            go_meet
            case rel => exact ⟨_, ((t172.toList == ([121, 101, 115] : List UInt8))), (by first | rfl | (simp; done) | (simp [*]; done)), H', ⟨by have := HJ2.out; first | omega | exact Nat.le_refl _⟩, ⟨by repeat (first | (with_reducible first | exact HB.out | apply below_alloc | apply pw_below_drewN | apply below_drew1) | exact HB.out)⟩⟩
          · replace c10 := Bool.eq_false_iff.mpr c10
            subst c10
            have H1 : (classify_Oneway.j1 kj2 t172 false false) = some r := by rw [if_neg (show ¬ (false = true) by decide)] at H; exact H
            clear H
            have H := H1
            clear H1
            have H' := Aside0.mk H
            clear H
            go_wp2
            go_meet
            case rel => exact ⟨_, (false), (by first | rfl | (simp; done) | (simp [*]; done)), H', ⟨by have := HJ2.out; first | omega | exact Nat.le_refl _⟩, ⟨by repeat (first | (with_reducible first | exact HB.out | apply below_alloc | apply pw_below_drewN | apply below_drew1) | exact HB.out)⟩⟩
        case rest =>
          clear HC9
          try clear c1
          try clear p2
          try clear c3
          try clear c5
          try clear c8
          try clear c10
          try clear p2
          obtain ⟨kq, x17_8, rfl, HA, HJ8, HB⟩ := hcut
          cases kq with
          | zero => exact absurd HA.out (by simp [classify_Oneway.j1])
          | succ kj8 =>
            have H := HA.out
            clear HA
            simp only [classify_Oneway.j1] at H
            by_cases c11 : x17_8 = true
            · subst c11
              have H1 : (some 1) = some r := by rw [if_pos rfl] at H; exact H
              clear H
              have H := H1
              clear H1
              obtain rfl := Option.some.inj H
              go_wp2
              go_ret
              exact ⟨by first | rfl | (simp [errW_none, errW_some] <;> rfl) | (simp [*, errW_none, errW_some] <;> rfl), by repeat (first | (with_reducible first | exact HB.out | apply below_alloc | apply pw_below_drewN | apply below_drew1) | exact HB.out)⟩
            · replace c11 := Bool.eq_false_iff.mpr c11
              subst c11
              have H1 : (if t173 = true then (if t172.toList = ([45, 49] : List UInt8) then (some (-1)) else (some 0)) else (some 0)) = some r := by rw [if_neg (show ¬ (false = true) by decide)] at H; exact H
              clear H
              have H := H1
              clear H1
              by_cases c12 : t173 = true
              · subst c12
                have H1 : (if t172.toList = ([45, 49] : List UInt8) then (some (-1)) else (some 0)) = some r := by rw [if_pos rfl] at H; exact H
                clear H
                have H := H1
                clear H1
                by_cases c13 : t172.toList = ([45, 49] : List UInt8)
                · rw [if_pos c13] at H
                  have c13b0 : (t172.toList == ([45, 49] : List UInt8)) = true := beq_iff_eq.mpr c13
                  have c13b1 : (t172.toList != ([45, 49] : List UInt8)) = false := bne_eq_false_iff_eq.mpr c13
                  clear c13
                  obtain rfl := Option.some.inj H
                  go_wp2
                  go_ret
                  exact ⟨by first | rfl | (simp [errW_none, errW_some] <;> rfl) | (simp [*, errW_none, errW_some] <;> rfl), by repeat (first | (with_reducible first | exact HB.out | apply below_alloc | apply pw_below_drewN | apply below_drew1) | exact HB.out)⟩
                · rw [if_neg c13] at H
                  have c13b0 : (t172.toList == ([45, 49] : List UInt8)) = false := beq_eq_false_iff_ne.mpr c13
                  have c13b1 : (t172.toList != ([45, 49] : List UInt8)) = true := bne_iff_ne.mpr c13
                  obtain rfl := Option.some.inj H
                  go_wp2
                  go_ret
                  exact ⟨by first | rfl | (simp [errW_none, errW_some] <;> rfl) | (simp [*, errW_none, errW_some] <;> rfl), by repeat (first | (with_reducible first | exact HB.out | apply below_alloc | apply pw_below_drewN | apply below_drew1) | exact HB.out)⟩
              · replace c12 := Bool.eq_false_iff.mpr c12
                subst c12
                have H1 : (some 0) = some r := by rw [if_neg (show ¬ (false = true) by decide)] at H; exact H
                clear H
                have H := H1
                clear H1
                obtain rfl := Option.some.inj H
                go_wp2
                go_ret
                exact ⟨by first | rfl | (simp [errW_none, errW_some] <;> rfl) | (simp [*, errW_none, errW_some] <;> rfl), by repeat (first | (with_reducible first | exact HB.out | apply below_alloc | apply pw_below_drewN | apply below_drew1) | exact HB.out)⟩

/-! ### mapmakerref18_Oneway: function 20 -/
def mapmakerref18_Oneway.j0 : Nat → List (S32) → Bool → Option (Int)
  | 0, _, _ => none
  | k + 1, x0, x13 => if x13 = true then (some 1) else ((mapmakerref18_is.f k x0 (⟨#[111, 110, 101, 119, 97, 121]⟩ : ByteArray) (⟨#[45, 49]⟩ : ByteArray)).bind fun t178 => (if t178 = true then (some (-1)) else (some 0)))
def mapmakerref18_Oneway.f (k : Nat) (l0 : List (S32)) : Option (Int) := (mapmakerref18_is.f k l0 (⟨#[111, 110, 101, 119, 97, 121]⟩ : ByteArray) (⟨#[121, 101, 115]⟩ : ByteArray)).bind fun t175 => (if t175 = true then (mapmakerref18_Oneway.j0 k l0 true) else ((mapmakerref18_has.f k l0 (⟨#[111, 110, 101, 119, 97, 121]⟩ : ByteArray)).bind fun t176 => (if t176 = true then (mapmakerref18_Oneway.j0 k l0 false) else ((mapmakerref18_is.f k l0 (⟨#[104, 105, 103, 104, 119, 97, 121]⟩ : ByteArray) (⟨#[109, 111, 116, 111, 114, 119, 97, 121]⟩ : ByteArray)).bind fun t177 => (mapmakerref18_Oneway.j0 k l0 t177)))))
theorem mapmakerref18_Oneway.mono_l : ∀ k, (∀ y0 y1, LeO (mapmakerref18_Oneway.j0 k y0 y1) (mapmakerref18_Oneway.j0 (k + 1) y0 y1))
  | 0 => fun _ _ r h => by simp [mapmakerref18_Oneway.j0] at h
  | k + 1 => by
    have ih0 := mapmakerref18_Oneway.mono_l k
    · intro y0 y1
      unfold mapmakerref18_Oneway.j0
      repeat' first
      | (with_reducible exact ih0 _ _)
      | (with_reducible exact mapmakerref18_has.mono _ _ _)
      | (with_reducible exact mapmakerref18_is.mono _ _ _ _)
      | (with_reducible exact LeO.refl _)
      | (with_reducible exact LeO.none _)
      | (with_reducible refine LeO.ite ?_ ?_)
      | (with_reducible refine LeO.bind ?_ (fun _ => ?_))
      | exact ih0 _ _
      | exact mapmakerref18_has.mono _ _ _
      | exact mapmakerref18_is.mono _ _ _ _
      | exact LeO.none _
      | refine LeO.ite ?_ ?_
      | refine LeO.bind ?_ (fun _ => ?_)
theorem mapmakerref18_Oneway.mono : ∀ a0 k, LeO (mapmakerref18_Oneway.f k a0) (mapmakerref18_Oneway.f (k + 1) a0) := by
  intro a0 k
  have ih0 := mapmakerref18_Oneway.mono_l k
  unfold mapmakerref18_Oneway.f
  repeat' first
      | (with_reducible exact ih0 _ _)
      | (with_reducible exact mapmakerref18_has.mono _ _ _)
      | (with_reducible exact mapmakerref18_is.mono _ _ _ _)
      | (with_reducible exact LeO.refl _)
      | (with_reducible exact LeO.none _)
      | (with_reducible refine LeO.ite ?_ ?_)
      | (with_reducible refine LeO.bind ?_ (fun _ => ?_))
      | exact ih0 _ _
      | exact mapmakerref18_has.mono _ _ _
      | exact mapmakerref18_is.mono _ _ _ _
      | exact LeO.none _
      | refine LeO.ite ?_ ?_
      | refine LeO.bind ?_ (fun _ => ?_)
set_option maxHeartbeats 8000000 in
set_option maxRecDepth 100000 in
theorem mapmakerref18_Oneway.calls (k : Nat) (A0 : Option Addr) (c0 : Nat) (l0 : List (S32)) (r : Int) (w : World) (hr0 : Kd.C k32 w A0 l0.length l0) (hc0 : l0.length ≤ c0) (h : mapmakerref18_Oneway.f k l0 = some r) :
    Calls Try.prog 20 #[.slice A0 l0.length c0] w fun e w' => e = .returned (.int .i64 r) ∧ Drawn0 w w' := by
  have HR0 := Aside0.mk hr0
  have HC0 := Aside0.mk hc0
  clear hr0 hc0
  have H : ((mapmakerref18_is.f k l0 (⟨#[111, 110, 101, 119, 97, 121]⟩ : ByteArray) (⟨#[121, 101, 115]⟩ : ByteArray)).bind fun t175 => (if t175 = true then (mapmakerref18_Oneway.j0 k l0 true) else ((mapmakerref18_has.f k l0 (⟨#[111, 110, 101, 119, 97, 121]⟩ : ByteArray)).bind fun t176 => (if t176 = true then (mapmakerref18_Oneway.j0 k l0 false) else ((mapmakerref18_is.f k l0 (⟨#[104, 105, 103, 104, 119, 97, 121]⟩ : ByteArray) (⟨#[109, 111, 116, 111, 114, 119, 97, 121]⟩ : ByteArray)).bind fun t177 => (mapmakerref18_Oneway.j0 k l0 t177)))))) = some r := h
  clear h
  have HC2 := Aside0.mk H
  clear H
  go_enter Try.func20, Try.ntmps20
  go_upto_region 1 with (fail)
  go_cut [13] (fun v13 wc => ∃ (kq : Nat) (x13_1 : Bool), v13 = .bool x13_1 ∧ Aside0 (mapmakerref18_Oneway.j0 kq l0 x13_1 = some r) ∧ Aside0 (kq ≤ k) ∧ Drawn0 w wc)
  case first =>
    have H := HC2.out
    clear HC2
    replace H := Option.bind_eq_some_iff.mp H
    obtain ⟨t175, A30, H⟩ := H
    replace H : (if t175 = true then (mapmakerref18_Oneway.j0 k l0 true) else ((mapmakerref18_has.f k l0 (⟨#[111, 110, 101, 119, 97, 121]⟩ : ByteArray)).bind fun t176 => (if t176 = true then (mapmakerref18_Oneway.j0 k l0 false) else ((mapmakerref18_is.f k l0 (⟨#[104, 105, 103, 104, 119, 97, 121]⟩ : ByteArray) (⟨#[109, 111, 116, 111, 114, 119, 97, 121]⟩ : ByteArray)).bind fun t177 => (mapmakerref18_Oneway.j0 k l0 t177))))) = some r := H
    have A3 := Aside0.mk A30
    clear A30
    by_cases c4 : t175 = true
    · subst c4
      have H1 : (mapmakerref18_Oneway.j0 k l0 true) = some r := by rw [if_pos rfl] at H; exact H
      clear H
      have H := H1
      clear H1
      have H' := Aside0.mk H
      clear H
      go_wp2_with (first | ((with_reducible refine gate_callee (f := 27) rfl ?_); refine goesL_ (some 4) rfl rfl Try.func27 (by kernel_rfl) rfl #[.slice A0 l0.length c0, .string (⟨#[111, 110, 101, 119, 97, 121]⟩ : ByteArray), .string (⟨#[121, 101, 115]⟩ : ByteArray)] rfl (by (try simp only [List.map_toArray, List.map_cons, List.map_nil]); first | done | rfl | (simp only [List.length_drop, List.length_take]; rfl)) ?_; (with_reducible refine (mapmakerref18_is.calls k _ _ l0 (⟨#[111, 110, 101, 119, 97, 121]⟩ : ByteArray) (⟨#[121, 101, 115]⟩ : ByteArray) true _ ?side1 ?side2 A3.out).mono ?_); (case side1 => repeat (first | exact HR0.out | (with_reducible refine Kd.C_alloc ?_ _) | (with_reducible refine Kd.C_drewN ?_ _) | (with_reducible refine Kd.C_drew ?_))); (case side2 => exact HC0.out); rintro e w' ⟨rfl, ⟨nd, rfl⟩⟩; refine ⟨_, rfl, ?_⟩))
      go_meet
      case rel => exact ⟨_, (true), (by first | rfl | (simp; done) | (simp [*]; done)), H', ⟨by first | omega | exact Nat.le_refl _⟩, by repeat (first | exact Drawn0.refl _ | apply Drawn0.step)⟩
    · replace c4 := Bool.eq_false_iff.mpr c4
      subst c4
      have H1 : ((mapmakerref18_has.f k l0 (⟨#[111, 110, 101, 119, 97, 121]⟩ : ByteArray)).bind fun t176 => (if t176 = true then (mapmakerref18_Oneway.j0 k l0 false) else ((mapmakerref18_is.f k l0 (⟨#[104, 105, 103, 104, 119, 97, 121]⟩ : ByteArray) (⟨#[109, 111, 116, 111, 114, 119, 97, 121]⟩ : ByteArray)).bind fun t177 => (mapmakerref18_Oneway.j0 k l0 t177)))) = some r := by rw [if_neg (show ¬ (false = true) by decide)] at H; exact H
      clear H
      have H := H1
      clear H1
      replace H := Option.bind_eq_some_iff.mp H
      obtain ⟨t176, A50, H⟩ := H
      replace H : (if t176 = true then (mapmakerref18_Oneway.j0 k l0 false) else ((mapmakerref18_is.f k l0 (⟨#[104, 105, 103, 104, 119, 97, 121]⟩ : ByteArray) (⟨#[109, 111, 116, 111, 114, 119, 97, 121]⟩ : ByteArray)).bind fun t177 => (mapmakerref18_Oneway.j0 k l0 t177))) = some r := H
      have A5 := Aside0.mk A50
      clear A50
      by_cases c6 : t176 = true
      · subst c6
        have H1 : (mapmakerref18_Oneway.j0 k l0 false) = some r := by rw [if_pos rfl] at H; exact H
        clear H
        have H := H1
        clear H1
        have H' := Aside0.mk H
        clear H
        go_wp2_with (first | ((with_reducible refine gate_callee (f := 27) rfl ?_); refine goesL_ (some 4) rfl rfl Try.func27 (by kernel_rfl) rfl #[.slice A0 l0.length c0, .string (⟨#[111, 110, 101, 119, 97, 121]⟩ : ByteArray), .string (⟨#[121, 101, 115]⟩ : ByteArray)] rfl (by (try simp only [List.map_toArray, List.map_cons, List.map_nil]); first | done | rfl | (simp only [List.length_drop, List.length_take]; rfl)) ?_; (with_reducible refine (mapmakerref18_is.calls k _ _ l0 (⟨#[111, 110, 101, 119, 97, 121]⟩ : ByteArray) (⟨#[121, 101, 115]⟩ : ByteArray) false _ ?side1 ?side2 A3.out).mono ?_); (case side1 => repeat (first | exact HR0.out | (with_reducible refine Kd.C_alloc ?_ _) | (with_reducible refine Kd.C_drewN ?_ _) | (with_reducible refine Kd.C_drew ?_))); (case side2 => exact HC0.out); rintro e w' ⟨rfl, ⟨nd, rfl⟩⟩; refine ⟨_, rfl, ?_⟩) | (go_at_call 28; (with_reducible refine (mapmakerref18_has.calls k _ _ l0 (⟨#[111, 110, 101, 119, 97, 121]⟩ : ByteArray) true _ ?side1 ?side2 A5.out).mono ?_); (case side1 => repeat (first | exact HR0.out | (with_reducible refine Kd.C_alloc ?_ _) | (with_reducible refine Kd.C_drewN ?_ _) | (with_reducible refine Kd.C_drew ?_))); (case side2 => exact HC0.out); rintro e w' ⟨rfl, ⟨nd, rfl⟩⟩))
        go_meet
        case rel => exact ⟨_, (false), (by first | rfl | (simp; done) | (simp [*]; done)), H', ⟨by first | omega | exact Nat.le_refl _⟩, by repeat (first | exact Drawn0.refl _ | apply Drawn0.step)⟩
      · replace c6 := Bool.eq_false_iff.mpr c6
        subst c6
        have H1 : ((mapmakerref18_is.f k l0 (⟨#[104, 105, 103, 104, 119, 97, 121]⟩ : ByteArray) (⟨#[109, 111, 116, 111, 114, 119, 97, 121]⟩ : ByteArray)).bind fun t177 => (mapmakerref18_Oneway.j0 k l0 t177)) = some r := by rw [if_neg (show ¬ (false = true) by decide)] at H; exact H
        clear H
        have H := H1
        clear H1
        replace H := Option.bind_eq_some_iff.mp H
        obtain ⟨t177, A70, H⟩ := H
        replace H : (mapmakerref18_Oneway.j0 k l0 t177) = some r := H
        have A7 := Aside0.mk A70
        clear A70
        have H' := Aside0.mk H
        clear H
        go_wp2_with (first | ((with_reducible refine gate_callee (f := 27) rfl ?_); refine goesL_ (some 4) rfl rfl Try.func27 (by kernel_rfl) rfl #[.slice A0 l0.length c0, .string (⟨#[111, 110, 101, 119, 97, 121]⟩ : ByteArray), .string (⟨#[121, 101, 115]⟩ : ByteArray)] rfl (by (try simp only [List.map_toArray, List.map_cons, List.map_nil]); first | done | rfl | (simp only [List.length_drop, List.length_take]; rfl)) ?_; (with_reducible refine (mapmakerref18_is.calls k _ _ l0 (⟨#[111, 110, 101, 119, 97, 121]⟩ : ByteArray) (⟨#[121, 101, 115]⟩ : ByteArray) false _ ?side1 ?side2 A3.out).mono ?_); (case side1 => repeat (first | exact HR0.out | (with_reducible refine Kd.C_alloc ?_ _) | (with_reducible refine Kd.C_drewN ?_ _) | (with_reducible refine Kd.C_drew ?_))); (case side2 => exact HC0.out); rintro e w' ⟨rfl, ⟨nd, rfl⟩⟩; refine ⟨_, rfl, ?_⟩) | (go_at_call 28; (with_reducible refine (mapmakerref18_has.calls k _ _ l0 (⟨#[111, 110, 101, 119, 97, 121]⟩ : ByteArray) false _ ?side1 ?side2 A5.out).mono ?_); (case side1 => repeat (first | exact HR0.out | (with_reducible refine Kd.C_alloc ?_ _) | (with_reducible refine Kd.C_drewN ?_ _) | (with_reducible refine Kd.C_drew ?_))); (case side2 => exact HC0.out); rintro e w' ⟨rfl, ⟨nd, rfl⟩⟩) | (go_at_call 27; (with_reducible refine (mapmakerref18_is.calls k _ _ l0 (⟨#[104, 105, 103, 104, 119, 97, 121]⟩ : ByteArray) (⟨#[109, 111, 116, 111, 114, 119, 97, 121]⟩ : ByteArray) t177 _ ?side1 ?side2 A7.out).mono ?_); (case side1 => repeat (first | exact HR0.out | (with_reducible refine Kd.C_alloc ?_ _) | (with_reducible refine Kd.C_drewN ?_ _) | (with_reducible refine Kd.C_drew ?_))); (case side2 => exact HC0.out); rintro e w' ⟨rfl, ⟨nd, rfl⟩⟩))
        go_meet
        case rel => exact ⟨_, (t177), (by first | rfl | (simp; done) | (simp [*]; done)), H', ⟨by first | omega | exact Nat.le_refl _⟩, by repeat (first | exact Drawn0.refl _ | apply Drawn0.step)⟩
  case rest =>
    clear HC2
    try clear c2
    try clear p2
    try clear c4
    try clear c6
    obtain ⟨kq, x13_1, rfl, HA, HJ1, ⟨mc1, rfl⟩⟩ := hcut
    cases kq with
    | zero => exact absurd HA.out (by simp [mapmakerref18_Oneway.j0])
    | succ kj1 =>
      have H := HA.out
      clear HA
      simp only [mapmakerref18_Oneway.j0] at H
      by_cases c8 : x13_1 = true
      · subst c8
        have H1 : (some 1) = some r := by rw [if_pos rfl] at H; exact H
        clear H
        have H := H1
        clear H1
        obtain rfl := Option.some.inj H
        go_wp2
        go_ret
        exact ⟨by first | rfl | (simp; done) | (simp [*]; done), by repeat (first | exact Drawn0.refl _ | apply Drawn0.step)⟩
      · replace c8 := Bool.eq_false_iff.mpr c8
        subst c8
        have H1 : ((mapmakerref18_is.f kj1 l0 (⟨#[111, 110, 101, 119, 97, 121]⟩ : ByteArray) (⟨#[45, 49]⟩ : ByteArray)).bind fun t178 => (if t178 = true then (some (-1)) else (some 0))) = some r := by rw [if_neg (show ¬ (false = true) by decide)] at H; exact H
        clear H
        have H := H1
        clear H1
        replace H := Option.bind_eq_some_iff.mp H
        obtain ⟨t178, A90, H⟩ := H
        replace H : (if t178 = true then (some (-1)) else (some 0)) = some r := H
        have A9 := Aside0.mk A90
        clear A90
        by_cases c10 : t178 = true
        · subst c10
          have H1 : (some (-1)) = some r := by rw [if_pos rfl] at H; exact H
          clear H
          have H := H1
          clear H1
          obtain rfl := Option.some.inj H
          go_wp2_with (first | ((with_reducible refine gate_callee (f := 27) rfl ?_); refine goesL_ (some 15) rfl rfl Try.func27 (by kernel_rfl) rfl #[.slice A0 l0.length c0, .string (⟨#[111, 110, 101, 119, 97, 121]⟩ : ByteArray), .string (⟨#[45, 49]⟩ : ByteArray)] rfl (by (try simp only [List.map_toArray, List.map_cons, List.map_nil]); first | done | rfl | (simp only [List.length_drop, List.length_take]; rfl)) ?_; (with_reducible refine (mapmakerref18_is.calls kj1 _ _ l0 (⟨#[111, 110, 101, 119, 97, 121]⟩ : ByteArray) (⟨#[45, 49]⟩ : ByteArray) true _ ?side1 ?side2 A9.out).mono ?_); (case side1 => repeat (first | exact HR0.out | (with_reducible refine Kd.C_alloc ?_ _) | (with_reducible refine Kd.C_drewN ?_ _) | (with_reducible refine Kd.C_drew ?_))); (case side2 => exact HC0.out); rintro e w' ⟨rfl, ⟨nd, rfl⟩⟩; refine ⟨_, rfl, ?_⟩))
          go_ret
          exact ⟨by first | rfl | (simp; done) | (simp [*]; done), by repeat (first | exact Drawn0.refl _ | apply Drawn0.step)⟩
        · replace c10 := Bool.eq_false_iff.mpr c10
          subst c10
          have H1 : (some 0) = some r := by rw [if_neg (show ¬ (false = true) by decide)] at H; exact H
          clear H
          have H := H1
          clear H1
          obtain rfl := Option.some.inj H
          go_wp2_with (first | ((with_reducible refine gate_callee (f := 27) rfl ?_); refine goesL_ (some 15) rfl rfl Try.func27 (by kernel_rfl) rfl #[.slice A0 l0.length c0, .string (⟨#[111, 110, 101, 119, 97, 121]⟩ : ByteArray), .string (⟨#[45, 49]⟩ : ByteArray)] rfl (by (try simp only [List.map_toArray, List.map_cons, List.map_nil]); first | done | rfl | (simp only [List.length_drop, List.length_take]; rfl)) ?_; (with_reducible refine (mapmakerref18_is.calls kj1 _ _ l0 (⟨#[111, 110, 101, 119, 97, 121]⟩ : ByteArray) (⟨#[45, 49]⟩ : ByteArray) false _ ?side1 ?side2 A9.out).mono ?_); (case side1 => repeat (first | exact HR0.out | (with_reducible refine Kd.C_alloc ?_ _) | (with_reducible refine Kd.C_drewN ?_ _) | (with_reducible refine Kd.C_drew ?_))); (case side2 => exact HC0.out); rintro e w' ⟨rfl, ⟨nd, rfl⟩⟩; refine ⟨_, rfl, ?_⟩))
          go_ret
          exact ⟨by first | rfl | (simp; done) | (simp [*]; done), by repeat (first | exact Drawn0.refl _ | apply Drawn0.step)⟩

/-! ### mapmakerref18_Name: function 22 -/
def mapmakerref18_Name.f (k : Nat) (l0 : List (S32)) : Option (ByteArray) := (mapmakerref06_Get.f k l0 (⟨#[110, 97, 109, 101]⟩ : ByteArray)).bind fun bt179 => (some bt179.1)
theorem mapmakerref18_Name.mono : ∀ a0 k, LeO (mapmakerref18_Name.f k a0) (mapmakerref18_Name.f (k + 1) a0) := by
  intro a0 k
  unfold mapmakerref18_Name.f
  repeat' first
      | (with_reducible exact mapmakerref06_Get.mono _ _ _)
      | (with_reducible exact LeO.refl _)
      | (with_reducible exact LeO.none _)
      | (with_reducible refine LeO.ite ?_ ?_)
      | (with_reducible refine LeO.bind ?_ (fun _ => ?_))
      | exact mapmakerref06_Get.mono _ _ _
      | exact LeO.none _
      | refine LeO.ite ?_ ?_
      | refine LeO.bind ?_ (fun _ => ?_)
set_option maxHeartbeats 8000000 in
set_option maxRecDepth 100000 in
theorem mapmakerref18_Name.calls (k : Nat) (A0 : Option Addr) (c0 : Nat) (l0 : List (S32)) (r : ByteArray) (w : World) (hr0 : Kd.C k32 w A0 l0.length l0) (hc0 : l0.length ≤ c0) (h : mapmakerref18_Name.f k l0 = some r) :
    Calls Try.prog 22 #[.slice A0 l0.length c0] w fun e w' => e = .returned (.string r) ∧ Drawn0 w w' := by
  have HR0 := Aside0.mk hr0
  have HC0 := Aside0.mk hc0
  clear hr0 hc0
  have H : ((mapmakerref06_Get.f k l0 (⟨#[110, 97, 109, 101]⟩ : ByteArray)).bind fun bt179 => (some bt179.1)) = some r := h
  clear h
  replace H := Option.bind_eq_some_iff.mp H
  obtain ⟨⟨t179, t180⟩, A20, H⟩ := H
  replace H : (some t179) = some r := H
  have A2 := Aside0.mk A20
  clear A20
  obtain rfl := Option.some.inj H
  go_enter Try.func22, Try.ntmps22
  go_wp2_with (first | ((with_reducible refine gate_callee (f := 31) rfl ?_); refine goesL_ (some 7) rfl rfl Try.func31 (by kernel_rfl) rfl #[.slice A0 l0.length c0, .string (⟨#[110, 97, 109, 101]⟩ : ByteArray)] rfl (by (try simp only [List.map_toArray, List.map_cons, List.map_nil]); first | done | rfl | (simp only [List.length_drop, List.length_take]; rfl)) ?_; (with_reducible refine (mapmakerref06_Get.calls k _ _ l0 (⟨#[110, 97, 109, 101]⟩ : ByteArray) t179 t180 _ ?side1 ?side2 A2.out).mono ?_); (case side1 => repeat (first | exact HR0.out | (with_reducible refine Kd.C_alloc ?_ _) | (with_reducible refine Kd.C_drewN ?_ _) | (with_reducible refine Kd.C_drew ?_))); (case side2 => exact HC0.out); rintro e w' ⟨rfl, ⟨nd, rfl⟩⟩; refine ⟨_, rfl, ?_⟩))
  go_ret
  exact ⟨by first | rfl | (simp; done) | (simp [*]; done), by repeat (first | exact Drawn0.refl _ | apply Drawn0.step)⟩

end Go.Proofs.Ytolhkhaglopioaa.PClassifyRoads
