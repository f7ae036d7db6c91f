-- out of a driver of this session's prover over the kit's print: Lean checks it
import Derived.Test.YtefambkodalomaaPAllx0
import Derived.Test.YtefambkodalomaaPAllx5
import Derived.Test.YtefambkodalomaaPAllx10
import Derived.Test.YtefambkodalomaaPAllx11
import Derived.Test.YtefambkodalomaaPAllx13
namespace Go.Proofs.Ytefambkodalomaa.PAll
open Go.Proofs.YtefambkodalomaaG Go.Shelf Go.Lib
open Go.RowKit Go.Proofs.YtefambkodalomaaW.PrintWords Go.Proofs.YtefambkodalomaaW.PrintLast Go.Proofs.YtefambkodalomaaW.PrintMore
attribute [local go_sem] max2_int min2_int max_two min_two max_three min_three max_four min_four   -- for this text's walks alone
set_option linter.unusedVariables false
set_option linter.unusedSimpArgs false
def mapmakerlaw19_tags.l0 : Nat → List (S130) → Int → Option (Bool)
 | 0, _, _ => none
 | k + 1, x0, x3 => if x3 < (x0.length : Int) then (if 0 ≤ x3 then (if (((rd_T130 x0 x3).f0).size : Int) > 200 then (some false) else (if (((rd_T130 x0 x3).f1).size : Int) > 200 then (some false) else (mapmakerlaw19_tags.l0 k x0 (wrap64 (x3 + 1))))) else (none)) else (some true)
def mapmakerlaw19_tags.f (k : Nat) (l0 : List (S130)) : Option (Bool) := if (l0.length : Int) > 20 then (some false) else (mapmakerlaw19_tags.l0 k l0 0)
theorem mapmakerlaw19_tags.mono_l : ∀ k, (∀ y0 y1, LeO (mapmakerlaw19_tags.l0 k y0 y1) (mapmakerlaw19_tags.l0 (k + 1) y0 y1))
 | 0 => fun _ _ r h => by simp [mapmakerlaw19_tags.l0] at h
 | k + 1 => by
  have ih0 := mapmakerlaw19_tags.mono_l k
  ·intro y0 y1
   unfold mapmakerlaw19_tags.l0
   repeat' first
   | (with_reducible exact ih0 _ _)
   | (with_reducible exact LeO.refl _)
   | (with_reducible exact LeO.none _)
   | (with_reducible refine LeO.ite ?_ ?_)
   | (with_reducible refine LeO.eB ?_ (fun _ => ?_))
   | (with_reducible refine LeO.bind ?_ (fun _ => ?_))
   | exact ih0 _ _
   | exact LeO.none _
   | refine LeO.ite ?_ ?_
   | refine LeO.bind ?_ (fun _ => ?_)
theorem mapmakerlaw19_tags.mono : ∀ a0 k, LeO (mapmakerlaw19_tags.f k a0) (mapmakerlaw19_tags.f (k + 1) a0) := by
 intro a0 k; have ih0 := mapmakerlaw19_tags.mono_l k; unfold mapmakerlaw19_tags.f
 repeat' first
   | (with_reducible exact ih0 _ _)
   | (with_reducible exact LeO.refl _)
   | (with_reducible exact LeO.none _)
   | (with_reducible refine LeO.ite ?_ ?_)
   | (with_reducible refine LeO.eB ?_ (fun _ => ?_))
   | (with_reducible refine LeO.bind ?_ (fun _ => ?_))
   | exact ih0 _ _
   | exact LeO.none _
   | refine LeO.ite ?_ ?_
   | refine LeO.bind ?_ (fun _ => ?_)
set_option maxHeartbeats 8000000 in
set_option maxRecDepth 100000 in
theorem mapmakerlaw19_tags.calls (k : Nat) (A0 : Option Addr) (c0 : Nat) (l0 : List (S130)) (r : Bool) (w : World) (hr0 : Kd.C k130 w A0 l0.length l0) (hc0 : l0.length ≤ c0) (h : mapmakerlaw19_tags.f k l0 = some r) :
  Calls Try.prog 26 #[.slice A0 l0.length c0] w fun e w' => e = .returned (.bool r) ∧ Drawn0 w w' := by
 have HR0 := aM hr0; have HC0 := aM hc0; clear hr0 hc0; have H : (if (l0.length : Int) > 20 then (some false) else (mapmakerlaw19_tags.l0 k l0 0)) = some r := h; clear h
 by_cases c2 : (l0.length : Int) > 20
 ·rw [if_pos c2] at H; have c2b0 : decide (20 < (l0.length : Int)) = true := decide_eq_true c2; have c2b1 : decide (20 < l0.length) = true := decide_eq_true (by omega); clear c2; obtain rfl := Option.some.inj H; go_enter Try.func26, Try.ntmps26
  go_wp2
  go_ret; exact ⟨by first | rfl | (simp; done) | (simp [*]; done), by repeat (first | exact Drawn0.refl _ | apply Drawn0.step)⟩
 ·rw [if_neg c2] at H; have c2b0 : decide (20 < (l0.length : Int)) = false := decide_eq_false c2; have c2b1 : decide (20 < l0.length) = false := decide_eq_false (by omega); clear c2; have H' := aM H; clear H; go_enter Try.func26, Try.ntmps26
  go_wp2
  go_loopg [3] k (fun kq v3 w' => ∃ (x3_1 : Int), v3 = .int .i64 x3_1 ∧ Aside0 (mapmakerlaw19_tags.l0 kq l0 x3_1 = some r) ∧ Aside0 (kq ≤ k) ∧ Drawn0 w w')
  case atStart => exact ⟨(0), (by first | rfl | (simp; done) | (simp [*]; done)), H', ⟨Nat.le_refl _⟩, by repeat (first | exact Drawn0.refl _ | apply Drawn0.step)⟩
  case round =>
   clear H'; (try clear c2); (try clear c2b0); (try clear c2b1); obtain ⟨x3_1, rfl, HA, HK1, ⟨m1, rfl⟩⟩ := hrel
   cases gk with
   | zero => exact absurd HA.out (by simp [mapmakerlaw19_tags.l0])
   | succ k1 =>
    have H := HA.out; clear HA; simp only [mapmakerlaw19_tags.l0] at H
    by_cases c3 : x3_1 < (l0.length : Int)
    ·rw [if_pos c3] at H; have c3b0 : decide (x3_1 < (l0.length : Int)) = true := decide_eq_true c3; clear c3
     by_cases c4 : 0 ≤ x3_1
     ·rw [if_pos c4] at H; have c4b0 : decide (0 ≤ x3_1) = true := decide_eq_true c4; clear c4
      by_cases c5 : (((rd_T130 l0 x3_1).f0).size : Int) > 200
      ·rw [if_pos c5] at H; have c5b0 : decide (200 < (((rd_T130 l0 x3_1).f0).size : Int)) = true := decide_eq_true c5; have c5b1 : decide (200 < ((rd_T130 l0 x3_1).f0).size) = true := decide_eq_true (by omega); clear c5; obtain rfl := Option.some.inj H; have p495 : 0 ≤ (x3_1 : Int) := oT; have q495 : x3_1 < (l0.length : Int) := oT; obtain ⟨ad495, e495, hx495_0, hx495_1⟩ := at_T130 HR0.out x3_1 p495 q495; cases e495
       replace p495 := eq_true p495; replace q495 := eq_true q495
       go_wp2
       go_ret; exact ⟨by first | rfl | (simp; done) | (simp [*]; done), by repeat (first | exact Drawn0.refl _ | apply Drawn0.step)⟩
      ·rw [if_neg c5] at H; have c5b0 : decide (200 < (((rd_T130 l0 x3_1).f0).size : Int)) = false := decide_eq_false c5; have c5b1 : decide (200 < ((rd_T130 l0 x3_1).f0).size) = false := decide_eq_false (by omega); clear c5
       by_cases c6 : (((rd_T130 l0 x3_1).f1).size : Int) > 200
       ·rw [if_pos c6] at H; have c6b0 : decide (200 < (((rd_T130 l0 x3_1).f1).size : Int)) = true := decide_eq_true c6; have c6b1 : decide (200 < ((rd_T130 l0 x3_1).f1).size) = true := decide_eq_true (by omega); clear c6; obtain rfl := Option.some.inj H; have p495 : 0 ≤ (x3_1 : Int) := oT; have q495 : x3_1 < (l0.length : Int) := oT; obtain ⟨ad495, e495, hx495_0, hx495_1⟩ := at_T130 HR0.out x3_1 p495 q495; cases e495
        replace p495 := eq_true p495; replace q495 := eq_true q495; have p496 : 0 ≤ (x3_1 : Int) := oT; have q496 : x3_1 < (l0.length : Int) := oT; obtain ⟨ad496, e496, hx496_0, hx496_1⟩ := at_T130 HR0.out x3_1 p496 q496; obtain rfl : ad495 = ad496 := (by injection e496); replace p496 := eq_true p496; replace q496 := eq_true q496
        go_wp2
        go_ret; exact ⟨by first | rfl | (simp; done) | (simp [*]; done), by repeat (first | exact Drawn0.refl _ | apply Drawn0.step)⟩
       ·rw [if_neg c6] at H; have c6b0 : decide (200 < (((rd_T130 l0 x3_1).f1).size : Int)) = false := decide_eq_false c6; have c6b1 : decide (200 < ((rd_T130 l0 x3_1).f1).size) = false := decide_eq_false (by omega); clear c6; have H' := aM H; clear H; have p495 : 0 ≤ (x3_1 : Int) := oT; have q495 : x3_1 < (l0.length : Int) := oT; obtain ⟨ad495, e495, hx495_0, hx495_1⟩ := at_T130 HR0.out x3_1 p495 q495; cases e495
        replace p495 := eq_true p495; replace q495 := eq_true q495; have p496 : 0 ≤ (x3_1 : Int) := oT; have q496 : x3_1 < (l0.length : Int) := oT; obtain ⟨ad496, e496, hx496_0, hx496_1⟩ := at_T130 HR0.out x3_1 p496 q496; obtain rfl : ad495 = ad496 := (by injection e496); replace p496 := eq_true p496; replace q496 := eq_true q496
        go_wp2
        go_roundg k1
        case measure => have := HK1.out; omega
        case rel => exact ⟨(wrap64 (x3_1 + 1)), (by first | rfl | (simp; done) | (simp [*]; done)), H', ⟨by have := HK1.out; omega⟩, by repeat (first | exact Drawn0.refl _ | apply Drawn0.step)⟩
     ·rw [if_neg c4] at H; exact absurd H (by simp)
    ·rw [if_neg c3] at H; have c3b0 : decide (x3_1 < (l0.length : Int)) = false := decide_eq_false c3; clear c3; obtain rfl := Option.some.inj H
     go_wp2
     go_ret; exact ⟨by first | rfl | (simp; done) | (simp [*]; done), by repeat (first | exact Drawn0.refl _ | apply Drawn0.step)⟩
end Go.Proofs.Ytefambkodalomaa.PAll
