-- out of a driver of this session's prover over the kit's print: Lean checks it
import Derived.Test.YtgenbepicnbecaaPAllx0
import Derived.Test.YtgenbepicnbecaaPAllx2
import Derived.Test.YtgenbepicnbecaaPAllx4
import Derived.Test.YtgenbepicnbecaaPAllx5
import Derived.Test.YtgenbepicnbecaaPAllx9
import Derived.Test.YtgenbepicnbecaaPAllx15
import Derived.Test.YtgenbepicnbecaaPAllx17
import Derived.Test.YtgenbepicnbecaaPAllx19
namespace Go.Proofs.Ytgenbepicnbecaa.PAll
open Go.Proofs.YtgenbepicnbecaaG Go.Shelf Go.Lib
open Go.RowKit Go.Proofs.YtgenbepicnbecaaW.PrintWords Go.Proofs.YtgenbepicnbecaaW.PrintLast Go.Proofs.YtgenbepicnbecaaW.PrintMore
attribute [local go_sem] max2_int min2_int max_two min_two max_three min_three max_four min_four   -- for this text's walks alone
set_option linter.unusedVariables false
set_option linter.unusedSimpArgs false
attribute [local go_sem high] eqA36 eqA70
def wf36 (x : S36) : Prop := (Lit.int .i64 x.f0).wf = true ∧ (Lit.int .i64 x.f1).wf = true
set_option maxRecDepth 100000 in
theorem opens36 : Opens Try.prog 36 k36 wf36 := by
 refine Opens.iso (d := (Kd.pair (Kd.int .i64) (Kd.int .i64))) (W := fun x => (Lit.int .i64 x.1).wf = true ∧ (Lit.int .i64 x.2).wf = true) (f := fun x : S36 => (x.f0, x.f1)) (g := fun x => (⟨x.1, x.2⟩ : S36)) ?_ (fun _ => rfl)
 refine Opens.struct Try.underlying36 (by kernel_rfl) ?_
 exact (OpensF.cons rfl (Opens.int Try.underlying3 (by kernel_rfl)) (OpensF.one rfl (Opens.int Try.underlying3 (by kernel_rfl))))
def wf70 (x : S70) : Prop := x.f0.size ≤ maxLen ∧ x.f1.size ≤ maxLen
set_option maxRecDepth 100000 in
theorem opens70 : Opens Try.prog 70 k70 wf70 := by
 refine Opens.iso (d := (Kd.pair Kd.string Kd.string)) (W := fun x => x.1.size ≤ maxLen ∧ x.2.size ≤ maxLen) (f := fun x : S70 => (x.f0, x.f1)) (g := fun x => (⟨x.1, x.2⟩ : S70)) ?_ (fun _ => rfl)
 refine Opens.struct Try.underlying70 (by kernel_rfl) ?_
 exact (OpensF.cons rfl (Opens.string Try.underlying9 (by kernel_rfl)) (OpensF.one rfl (Opens.string Try.underlying9 (by kernel_rfl))))
def wf39 (x : S39) : Prop := (Lit.int .i64 x.f0).wf = true ∧ wf36 x.f1 ∧ (x.f2.length ≤ 140737488355328 ∧ ∀ y ∈ x.f2, wf70 y)
set_option maxRecDepth 100000 in
theorem opens39 : Opens Try.prog 39 k39 wf39 := by
 refine Opens.iso (d := (Kd.pair (Kd.int .i64) (Kd.pair k36 (Kd.slice 70 k70)))) (W := fun x => (Lit.int .i64 x.1).wf = true ∧ wf36 x.2.1 ∧ (x.2.2.length ≤ 140737488355328 ∧ ∀ y ∈ x.2.2, wf70 y)) (f := fun x : S39 => (x.f0, x.f1, x.f2)) (g := fun x => (⟨x.1, x.2.1, x.2.2⟩ : S39)) ?_ (fun _ => rfl)
 refine Opens.struct Try.underlying39 (by kernel_rfl) ?_
 exact (OpensF.cons rfl (Opens.int Try.underlying3 (by kernel_rfl)) (OpensF.cons rfl opens36 (OpensF.one rfl (Opens.slice Try.underlying37 (by kernel_rfl) (of_decide_eq_true (by kernel_rfl)) opens70))))
def wf45 (x : S45) : Prop := (Lit.int .i64 x.f0).wf = true ∧ (x.f1.length ≤ 140737488355328 ∧ ∀ y ∈ x.f1, (Lit.int .i64 y).wf = true) ∧ (x.f2.length ≤ 140737488355328 ∧ ∀ y ∈ x.f2, wf70 y)
set_option maxRecDepth 100000 in
theorem opens45 : Opens Try.prog 45 k45 wf45 := by
 refine Opens.iso (d := (Kd.pair (Kd.int .i64) (Kd.pair (Kd.slice 3 (Kd.int .i64)) (Kd.slice 70 k70)))) (W := fun x => (Lit.int .i64 x.1).wf = true ∧ (x.2.1.length ≤ 140737488355328 ∧ ∀ y ∈ x.2.1, (Lit.int .i64 y).wf = true) ∧ (x.2.2.length ≤ 140737488355328 ∧ ∀ y ∈ x.2.2, wf70 y)) (f := fun x : S45 => (x.f0, x.f1, x.f2)) (g := fun x => (⟨x.1, x.2.1, x.2.2⟩ : S45)) ?_ (fun _ => rfl)
 refine Opens.struct Try.underlying45 (by kernel_rfl) ?_
 exact (OpensF.cons rfl (Opens.int Try.underlying3 (by kernel_rfl)) (OpensF.cons rfl (Opens.slice Try.underlying43 (by kernel_rfl) (of_decide_eq_true (by kernel_rfl)) (Opens.int Try.underlying3 (by kernel_rfl))) (OpensF.one rfl (Opens.slice Try.underlying37 (by kernel_rfl) (of_decide_eq_true (by kernel_rfl)) opens70))))
def wf34 (x : S34) : Prop := (Lit.int .i64 x.f0).wf = true ∧ (Lit.int .i64 x.f1).wf = true
set_option maxRecDepth 100000 in
theorem opens34 : Opens Try.prog 34 k34 wf34 := by
 refine Opens.iso (d := (Kd.pair (Kd.int .i64) (Kd.int .i64))) (W := fun x => (Lit.int .i64 x.1).wf = true ∧ (Lit.int .i64 x.2).wf = true) (f := fun x : S34 => (x.f0, x.f1)) (g := fun x => (⟨x.1, x.2⟩ : S34)) ?_ (fun _ => rfl)
 refine Opens.struct Try.underlying34 (by kernel_rfl) ?_
 exact (OpensF.cons rfl (Opens.int Try.underlying3 (by kernel_rfl)) (OpensF.one rfl (Opens.int Try.underlying3 (by kernel_rfl))))
def wf67 (x : S67) : Prop := wf34 x.f0 ∧ x.f1.size ≤ maxLen
set_option maxRecDepth 100000 in
theorem opens67 : Opens Try.prog 67 k67 wf67 := by
 refine Opens.iso (d := (Kd.pair k34 Kd.string)) (W := fun x => wf34 x.1 ∧ x.2.size ≤ maxLen) (f := fun x : S67 => (x.f0, x.f1)) (g := fun x => (⟨x.1, x.2⟩ : S67)) ?_ (fun _ => rfl)
 refine Opens.struct Try.underlying67 (by kernel_rfl) ?_
 exact (OpensF.cons rfl opens34 (OpensF.one rfl (Opens.string Try.underlying9 (by kernel_rfl))))
def wf51 (x : S51) : Prop := (Lit.int .i64 x.f0).wf = true ∧ (x.f1.length ≤ 140737488355328 ∧ ∀ y ∈ x.f1, wf67 y) ∧ (x.f2.length ≤ 140737488355328 ∧ ∀ y ∈ x.f2, wf70 y)
set_option maxRecDepth 100000 in
theorem opens51 : Opens Try.prog 51 k51 wf51 := by
 refine Opens.iso (d := (Kd.pair (Kd.int .i64) (Kd.pair (Kd.slice 67 k67) (Kd.slice 70 k70)))) (W := fun x => (Lit.int .i64 x.1).wf = true ∧ (x.2.1.length ≤ 140737488355328 ∧ ∀ y ∈ x.2.1, wf67 y) ∧ (x.2.2.length ≤ 140737488355328 ∧ ∀ y ∈ x.2.2, wf70 y)) (f := fun x : S51 => (x.f0, x.f1, x.f2)) (g := fun x => (⟨x.1, x.2.1, x.2.2⟩ : S51)) ?_ (fun _ => rfl)
 refine Opens.struct Try.underlying51 (by kernel_rfl) ?_
 exact (OpensF.cons rfl (Opens.int Try.underlying3 (by kernel_rfl)) (OpensF.cons rfl (Opens.slice Try.underlying49 (by kernel_rfl) (of_decide_eq_true (by kernel_rfl)) opens67) (OpensF.one rfl (Opens.slice Try.underlying37 (by kernel_rfl) (of_decide_eq_true (by kernel_rfl)) opens70))))
def wf26 (x : S26) : Prop := (x.f0.length ≤ 140737488355328 ∧ ∀ y ∈ x.f0, wf39 y) ∧ (x.f1.length ≤ 140737488355328 ∧ ∀ y ∈ x.f1, wf45 y) ∧ (x.f2.length ≤ 140737488355328 ∧ ∀ y ∈ x.f2, wf51 y)
set_option maxRecDepth 100000 in
theorem opens26 : Opens Try.prog 26 k26 wf26 := by
 refine Opens.iso (d := (Kd.pair (Kd.slice 39 k39) (Kd.pair (Kd.slice 45 k45) (Kd.slice 51 k51)))) (W := fun x => (x.1.length ≤ 140737488355328 ∧ ∀ y ∈ x.1, wf39 y) ∧ (x.2.1.length ≤ 140737488355328 ∧ ∀ y ∈ x.2.1, wf45 y) ∧ (x.2.2.length ≤ 140737488355328 ∧ ∀ y ∈ x.2.2, wf51 y)) (f := fun x : S26 => (x.f0, x.f1, x.f2)) (g := fun x => (⟨x.1, x.2.1, x.2.2⟩ : S26)) ?_ (fun _ => rfl)
 refine Opens.struct Try.underlying26 (by kernel_rfl) ?_
 exact (OpensF.cons rfl (Opens.slice Try.underlying22 (by kernel_rfl) (of_decide_eq_true (by kernel_rfl)) opens39) (OpensF.cons rfl (Opens.slice Try.underlying23 (by kernel_rfl) (of_decide_eq_true (by kernel_rfl)) opens45) (OpensF.one rfl (Opens.slice Try.underlying24 (by kernel_rfl) (of_decide_eq_true (by kernel_rfl)) opens51))))
def mapmakerref14_SameTags.l0 : Nat → List (S70) → List (S70) → Int → Option (Bool)
 | 0, _, _, _ => none
 | k + 1, x0, x1, x5 => if x5 < (x0.length : Int) then (if 0 ≤ x5 then (if x5 < (x1.length : Int) then (if (!((((rd_T70 x0 x5).f0).toList) == (((rd_T70 x1 x5).f0).toList)) || (!((((rd_T70 x0 x5).f1).toList) == (((rd_T70 x1 x5).f1).toList)))) = true then (some false) else (mapmakerref14_SameTags.l0 k x0 x1 (wrap64 (x5 + 1)))) else (none)) else (none)) else (some true)
def mapmakerref14_SameTags.f (k : Nat) (l0 : List (S70)) (l1 : List (S70)) : Option (Bool) := if (l0.length : Int) = (l1.length : Int) then (mapmakerref14_SameTags.l0 k l0 l1 0) else (some false)
theorem mapmakerref14_SameTags.mono_l : ∀ k, (∀ y0 y1 y2, LeO (mapmakerref14_SameTags.l0 k y0 y1 y2) (mapmakerref14_SameTags.l0 (k + 1) y0 y1 y2))
 | 0 => fun _ _ _ r h => by simp [mapmakerref14_SameTags.l0] at h
 | k + 1 => by
  have ih0 := mapmakerref14_SameTags.mono_l k
  ·intro y0 y1 y2
   unfold mapmakerref14_SameTags.l0
   repeat' first
   | (with_reducible exact ih0 _ _ _)
   | (with_reducible exact LeO.refl _)
   | (with_reducible exact LeO.none _)
   | (with_reducible refine LeO.ite ?_ ?_)
   | (with_reducible refine LeO.bind ?_ (fun _ => ?_))
   | exact ih0 _ _ _
   | exact LeO.none _
   | refine LeO.ite ?_ ?_
   | refine LeO.bind ?_ (fun _ => ?_)
theorem mapmakerref14_SameTags.mono : ∀ a0 a1 k, LeO (mapmakerref14_SameTags.f k a0 a1) (mapmakerref14_SameTags.f (k + 1) a0 a1) := by
 intro a0 a1 k
 have ih0 := mapmakerref14_SameTags.mono_l k
 unfold mapmakerref14_SameTags.f
 repeat' first
   | (with_reducible exact ih0 _ _ _)
   | (with_reducible exact LeO.refl _)
   | (with_reducible exact LeO.none _)
   | (with_reducible refine LeO.ite ?_ ?_)
   | (with_reducible refine LeO.bind ?_ (fun _ => ?_))
   | exact ih0 _ _ _
   | exact LeO.none _
   | refine LeO.ite ?_ ?_
   | refine LeO.bind ?_ (fun _ => ?_)
set_option maxHeartbeats 8000000 in
set_option maxRecDepth 100000 in
theorem mapmakerref14_SameTags.calls (k : Nat) (A0 : Option Addr) (c0 : Nat) (l0 : List (S70)) (A1 : Option Addr) (c1 : Nat) (l1 : List (S70)) (r : Bool) (w : World) (hr0 : Kd.C k70 w A0 l0.length l0) (hc0 : l0.length ≤ c0) (hr1 : Kd.C k70 w A1 l1.length l1) (hc1 : l1.length ≤ c1) (h : mapmakerref14_SameTags.f k l0 l1 = some r) :
  Calls Try.prog 28 #[.slice A0 l0.length c0, .slice A1 l1.length c1] w fun e w' => e = .returned (.bool r) ∧ Drawn0 w w' := by
 have hu70 := Try.underlying70
 have HR0 := aM hr0
 have HC0 := aM hc0
 clear hr0 hc0
 have HR1 := aM hr1
 have HC1 := aM hc1
 clear hr1 hc1
 have H : (if (l0.length : Int) = (l1.length : Int) then (mapmakerref14_SameTags.l0 k l0 l1 0) else (some false)) = some r := h
 clear h
 by_cases c3 : (l0.length : Int) = (l1.length : Int)
 ·rw [if_pos c3] at H
  have c3b0 : ((l0.length : Int) == (l1.length : Int)) = true := beq_iff_eq.mpr c3
  have c3b1 : ((l0.length : Int) != (l1.length : Int)) = false := bne_eq_false_iff_eq.mpr c3
  have c3b2 : (l0.length == l1.length) = true := by first | simpa using c3 | (simp at c3 ⊢; omega)
  clear c3
  have H' := aM H
  clear H
  go_enter Try.func28, Try.ntmps28
  go_wp2
  repeat (go_quiet (fail); try go_wp2)
  go_loopg [5] k (fun kq v5 w' => ∃ (x5_1 : Int), v5 = .int .i64 x5_1 ∧ Aside0 (mapmakerref14_SameTags.l0 kq l0 l1 x5_1 = some r) ∧ Aside0 (kq ≤ k) ∧ Drawn0 w w')
  case atStart => exact ⟨(0), (by first | rfl | (simp; done) | (simp [*]; done)), H', ⟨Nat.le_refl _⟩, by repeat (first | exact Drawn0.refl _ | apply Drawn0.step)⟩
  case round =>
   clear H'
   try clear c1
   try clear c2
   try clear p2
   try clear c3
   try clear c3b0
   try clear c3b1
   try clear c3b2
   obtain ⟨x5_1, rfl, HA, HK1, ⟨m1, rfl⟩⟩ := hrel
   cases gk with
   | zero => exact absurd HA.out (by simp [mapmakerref14_SameTags.l0])
   | succ k1 =>
    have H := HA.out
    clear HA
    simp only [mapmakerref14_SameTags.l0] at H
    by_cases c4 : x5_1 < (l0.length : Int)
    ·rw [if_pos c4] at H
     have c4b0 : decide (x5_1 < (l0.length : Int)) = true := decide_eq_true c4
     clear c4
     by_cases c5 : 0 ≤ x5_1
     ·rw [if_pos c5] at H
      have c5b0 : decide (0 ≤ x5_1) = true := decide_eq_true c5
      clear c5
      by_cases c6 : x5_1 < (l1.length : Int)
      ·rw [if_pos c6] at H
       have c6b0 : decide (x5_1 < (l1.length : Int)) = true := decide_eq_true c6
       clear c6
       by_cases c7 : (!((((rd_T70 l0 x5_1).f0).toList) == (((rd_T70 l1 x5_1).f0).toList)) || (!((((rd_T70 l0 x5_1).f1).toList) == (((rd_T70 l1 x5_1).f1).toList)))) = true
       ·rw [if_pos c7] at H
        have c7b0 : (!((((rd_T70 l0 x5_1).f0).toList) == (((rd_T70 l1 x5_1).f0).toList)) || (!((((rd_T70 l0 x5_1).f1).toList) == (((rd_T70 l1 x5_1).f1).toList)))) = true := c7
        clear c7
        obtain rfl := Option.some.inj H
        have p324 : 0 ≤ (x5_1 : Int) := oT
        have q324 : x5_1 < (l0.length : Int) := oT
        obtain ⟨ad324, e324, hx324_0, hx324_1⟩ := at_T70 HR0.out x5_1 p324 q324
        cases e324
        replace p324 := eq_true p324
        replace q324 := eq_true q324
        have p325 : 0 ≤ (x5_1 : Int) := oT
        have q325 : x5_1 < (l1.length : Int) := oT
        obtain ⟨ad325, e325, hx325_0, hx325_1⟩ := at_T70 HR1.out x5_1 p325 q325
        cases e325
        replace p325 := eq_true p325
        replace q325 := eq_true q325
        go_wp2
        repeat (go_quiet (fail); try go_wp2)
        go_ret
        exact ⟨by first | rfl | (simp; done) | (simp [*]; done), by repeat (first | exact Drawn0.refl _ | apply Drawn0.step)⟩
       ·rw [if_neg c7] at H
        have c7b0 : (!((((rd_T70 l0 x5_1).f0).toList) == (((rd_T70 l1 x5_1).f0).toList)) || (!((((rd_T70 l0 x5_1).f1).toList) == (((rd_T70 l1 x5_1).f1).toList)))) = false := by simpa using c7
        clear c7
        have H' := aM H
        clear H
        have p324 : 0 ≤ (x5_1 : Int) := oT
        have q324 : x5_1 < (l0.length : Int) := oT
        obtain ⟨ad324, e324, hx324_0, hx324_1⟩ := at_T70 HR0.out x5_1 p324 q324
        cases e324
        replace p324 := eq_true p324
        replace q324 := eq_true q324
        have p325 : 0 ≤ (x5_1 : Int) := oT
        have q325 : x5_1 < (l1.length : Int) := oT
        obtain ⟨ad325, e325, hx325_0, hx325_1⟩ := at_T70 HR1.out x5_1 p325 q325
        cases e325
        replace p325 := eq_true p325
        replace q325 := eq_true q325
        go_wp2
        repeat (go_quiet (fail); try go_wp2)
        go_roundg k1
        case measure => have := HK1.out; omega
        case rel => exact ⟨(wrap64 (x5_1 + 1)), (by first | rfl | (simp; done) | (simp [*]; done)), H', ⟨by have := HK1.out; omega⟩, by repeat (first | exact Drawn0.refl _ | apply Drawn0.step)⟩
      ·rw [if_neg c6] at H
       exact absurd H (by simp)
     ·rw [if_neg c5] at H
      exact absurd H (by simp)
    ·rw [if_neg c4] at H
     have c4b0 : decide (x5_1 < (l0.length : Int)) = false := decide_eq_false c4
     clear c4
     obtain rfl := Option.some.inj H
     go_wp2
     repeat (go_quiet (fail); try go_wp2)
     go_ret
     exact ⟨by first | rfl | (simp; done) | (simp [*]; done), by repeat (first | exact Drawn0.refl _ | apply Drawn0.step)⟩
 ·rw [if_neg c3] at H
  have c3b0 : ((l0.length : Int) == (l1.length : Int)) = false := beq_eq_false_iff_ne.mpr c3
  have c3b1 : ((l0.length : Int) != (l1.length : Int)) = true := bne_iff_ne.mpr c3
  have c3b2 : (l0.length == l1.length) = false := by first | simpa using c3 | (simp at c3 ⊢; omega)
  obtain rfl := Option.some.inj H
  go_enter Try.func28, Try.ntmps28
  go_wp2
  repeat (go_quiet (fail); try go_wp2)
  go_ret
  exact ⟨by first | rfl | (simp; done) | (simp [*]; done), by repeat (first | exact Drawn0.refl _ | apply Drawn0.step)⟩
def mapmakerref14_SameNode.f (k : Nat) (a0_0 : Int) (a0_1 : Int) (a0_2 : Int) (l0_3 : List (S70)) (a1_0 : Int) (a1_1 : Int) (a1_2 : Int) (l1_3 : List (S70)) : Option (Bool) := if a0_0 = a1_0 then (if (a0_1 == a1_1 && (a0_2 == a1_2)) = true then ((mapmakerref14_SameTags.f k l0_3 l1_3).bind fun t328 => (some t328)) else (some false)) else (some false)
theorem mapmakerref14_SameNode.mono : ∀ a0 a1 a2 a3 a4 a5 a6 a7 k, LeO (mapmakerref14_SameNode.f k a0 a1 a2 a3 a4 a5 a6 a7) (mapmakerref14_SameNode.f (k + 1) a0 a1 a2 a3 a4 a5 a6 a7) := by
 intro a0 a1 a2 a3 a4 a5 a6 a7 k
 unfold mapmakerref14_SameNode.f
 repeat' first
   | (with_reducible exact mapmakerref14_SameTags.mono _ _ _)
   | (with_reducible exact LeO.refl _)
   | (with_reducible exact LeO.none _)
   | (with_reducible refine LeO.ite ?_ ?_)
   | (with_reducible refine LeO.bind ?_ (fun _ => ?_))
   | exact mapmakerref14_SameTags.mono _ _ _
   | exact LeO.none _
   | refine LeO.ite ?_ ?_
   | refine LeO.bind ?_ (fun _ => ?_)
set_option maxHeartbeats 8000000 in
set_option maxRecDepth 100000 in
theorem mapmakerref14_SameNode.calls (k : Nat) (a0_0 : Int) (a0_1 : Int) (a0_2 : Int) (A0_3 : Option Addr) (c0_3 : Nat) (l0_3 : List (S70)) (a1_0 : Int) (a1_1 : Int) (a1_2 : Int) (A1_3 : Option Addr) (c1_3 : Nat) (l1_3 : List (S70)) (r : Bool) (w : World) (hr0_3 : Kd.C k70 w A0_3 l0_3.length l0_3) (hc0_3 : l0_3.length ≤ c0_3) (hr1_3 : Kd.C k70 w A1_3 l1_3.length l1_3) (hc1_3 : l1_3.length ≤ c1_3) (h : mapmakerref14_SameNode.f k a0_0 a0_1 a0_2 l0_3 a1_0 a1_1 a1_2 l1_3 = some r) :
  Calls Try.prog 14 #[.agg #[.int .i64 a0_0, .int .i64 a0_1, .int .i64 a0_2, .slice A0_3 l0_3.length c0_3], .agg #[.int .i64 a1_0, .int .i64 a1_1, .int .i64 a1_2, .slice A1_3 l1_3.length c1_3]] w fun e w' => e = .returned (.bool r) ∧ Below w.heap.size w w' := by
 have hu39 := Try.underlying39
 have hu36 := Try.underlying36
 have HR0_3 := aM hr0_3
 have HC0_3 := aM hc0_3
 clear hr0_3 hc0_3
 have HR1_3 := aM hr1_3
 have HC1_3 := aM hc1_3
 clear hr1_3 hc1_3
 have HB := aM (Below.refl w.heap.size w)
 have H : (if a0_0 = a1_0 then (if (a0_1 == a1_1 && (a0_2 == a1_2)) = true then ((mapmakerref14_SameTags.f k l0_3 l1_3).bind fun t328 => (some t328)) else (some false)) else (some false)) = some r := h
 clear h
 by_cases c3 : a0_0 = a1_0
 ·rw [if_pos c3] at H
  have c3b0 : (a0_0 == a1_0) = true := beq_iff_eq.mpr c3
  have c3b1 : (a0_0 != a1_0) = false := bne_eq_false_iff_eq.mpr c3
  clear c3
  by_cases c4 : (a0_1 == a1_1 && (a0_2 == a1_2)) = true
  ·rw [if_pos c4] at H
   have c4b0 : (a0_1 == a1_1 && (a0_2 == a1_2)) = true := c4
   (try (have c4b1 : decide (a0_1 = a1_1 && (a0_2 == a1_2)) = true := by simpa using c4))
   (try (have c4b2 : (a0_1 == a1_1 && (a0_2 == a1_2)) = true := by simpa using c4))
   clear c4
   replace H := Option.bind_eq_some_iff.mp H
   obtain ⟨t328, A50, H⟩ := H
   try dsimp only at H
   have A5 := aM A50
   clear A50
   obtain rfl := Option.some.inj H
   go_enter Try.func14, Try.ntmps14
   go_wp2_with (first | ((with_reducible refine gate_dst (N := 2) rfl ?_); refine bx (N := 2) (cs := #[.int .i64 a0_0, .int .i64 a0_1, .int .i64 a0_2, .slice A0_3 l0_3.length c0_3]) (t := 39) ?_; intro gb326 hg w6 hbox hb; have n0_ := aM (bS (bl) hb); have n1_ := aM (hbox); have n3_ := aM (gw (w := w) hg); (try clear HB); have HB := n0_; have BK326 := n1_; have GE326 := n3_; clear n0_ n1_ n3_ hb hbox hg) | ((with_reducible refine gate_dst (N := 3) rfl ?_); refine bx (N := 3) (cs := #[.int .i64 a1_0, .int .i64 a1_1, .int .i64 a1_2, .slice A1_3 l1_3.length c1_3]) (t := 39) ?_; intro gb327 hg w7 hbox hb; have n0_ := aM (kB (kl BK326) hb); have n1_ := aM (bS (bl) hb); have n2_ := aM (hbox); have n4_ := aM (gw (w := w) hg); have n5_ := aM (nb BK326 hg); have n6_ := aM (nb BK326 hg).symm; (try clear BK326); (try clear HB); have BK326 := n0_; have HB := n1_; have BK327 := n2_; have GE327 := n4_; have NB326_327 := n5_; have NB327_326 := n6_; clear n0_ n1_ n2_ n4_ n5_ n6_ hb hbox hg; have hnb8 := NB326_327.out; have hnc8 := NB327_326.out; obtain ⟨hcz9_0, hcz9_1, hcz9_2, hcz9_3, hfz9_0, hfz9_1, hfz9_2, hfz9_3⟩ := bc4 BK326; obtain ⟨hcz10_0, hcz10_1, hcz10_2, hcz10_3, hfz10_0, hfz10_1, hfz10_2, hfz10_3⟩ := bc4 BK327) | (go_at_call 28; (with_reducible refine (mapmakerref14_SameTags.calls k _ _ l0_3 _ _ l1_3 t328 _ ?side1 ?side2 ?side3 ?side4 A5.out).mono ?_); (case side1 => exact cl HR0_3); (case side2 => exact HC0_3.out); (case side3 => exact cl HR1_3); (case side4 => exact HC1_3.out); rintro e w' ⟨rfl, ⟨nd, rfl⟩⟩))
   go_ret
   exact ⟨by first | rfl | (simp [errW_none, errW_some] <;> rfl) | (simp [*, errW_none, errW_some] <;> rfl), bl⟩
  ·rw [if_neg c4] at H
   have c4b0 : (a0_1 == a1_1 && (a0_2 == a1_2)) = false := by simpa using c4
   (try (have c4b1 : decide (a0_1 = a1_1 && (a0_2 == a1_2)) = false := by simpa using c4))
   (try (have c4b2 : (a0_1 == a1_1 && (a0_2 == a1_2)) = false := by simpa using c4))
   (try (have c4b3 : ¬ (a0_1 = a1_1 && (a0_2 == a1_2)) := by simpa using c4))
   clear c4
   obtain rfl := Option.some.inj H
   go_enter Try.func14, Try.ntmps14
   go_wp2_with (first | ((with_reducible refine gate_dst (N := 2) rfl ?_); refine bx (N := 2) (cs := #[.int .i64 a0_0, .int .i64 a0_1, .int .i64 a0_2, .slice A0_3 l0_3.length c0_3]) (t := 39) ?_; intro gb326 hg w11 hbox hb; have n0_ := aM (bS (bl) hb); have n1_ := aM (hbox); have n3_ := aM (gw (w := w) hg); (try clear HB); have HB := n0_; have BK326 := n1_; have GE326 := n3_; clear n0_ n1_ n3_ hb hbox hg) | ((with_reducible refine gate_dst (N := 3) rfl ?_); refine bx (N := 3) (cs := #[.int .i64 a1_0, .int .i64 a1_1, .int .i64 a1_2, .slice A1_3 l1_3.length c1_3]) (t := 39) ?_; intro gb327 hg w12 hbox hb; have n0_ := aM (kB (kl BK326) hb); have n1_ := aM (bS (bl) hb); have n2_ := aM (hbox); have n4_ := aM (gw (w := w) hg); have n5_ := aM (nb BK326 hg); have n6_ := aM (nb BK326 hg).symm; (try clear BK326); (try clear HB); have BK326 := n0_; have HB := n1_; have BK327 := n2_; have GE327 := n4_; have NB326_327 := n5_; have NB327_326 := n6_; clear n0_ n1_ n2_ n4_ n5_ n6_ hb hbox hg; have hnb13 := NB326_327.out; have hnc13 := NB327_326.out; obtain ⟨hcz14_0, hcz14_1, hcz14_2, hcz14_3, hfz14_0, hfz14_1, hfz14_2, hfz14_3⟩ := bc4 BK326; obtain ⟨hcz15_0, hcz15_1, hcz15_2, hcz15_3, hfz15_0, hfz15_1, hfz15_2, hfz15_3⟩ := bc4 BK327))
   go_ret
   exact ⟨by first | rfl | (simp [errW_none, errW_some] <;> rfl) | (simp [*, errW_none, errW_some] <;> rfl), bl⟩
 ·rw [if_neg c3] at H
  have c3b0 : (a0_0 == a1_0) = false := beq_eq_false_iff_ne.mpr c3
  have c3b1 : (a0_0 != a1_0) = true := bne_iff_ne.mpr c3
  obtain rfl := Option.some.inj H
  go_enter Try.func14, Try.ntmps14
  go_wp2_with (first | ((with_reducible refine gate_dst (N := 2) rfl ?_); refine bx (N := 2) (cs := #[.int .i64 a0_0, .int .i64 a0_1, .int .i64 a0_2, .slice A0_3 l0_3.length c0_3]) (t := 39) ?_; intro gb326 hg w16 hbox hb; have n0_ := aM (bS (bl) hb); have n1_ := aM (hbox); have n3_ := aM (gw (w := w) hg); (try clear HB); have HB := n0_; have BK326 := n1_; have GE326 := n3_; clear n0_ n1_ n3_ hb hbox hg) | ((with_reducible refine gate_dst (N := 3) rfl ?_); refine bx (N := 3) (cs := #[.int .i64 a1_0, .int .i64 a1_1, .int .i64 a1_2, .slice A1_3 l1_3.length c1_3]) (t := 39) ?_; intro gb327 hg w17 hbox hb; have n0_ := aM (kB (kl BK326) hb); have n1_ := aM (bS (bl) hb); have n2_ := aM (hbox); have n4_ := aM (gw (w := w) hg); have n5_ := aM (nb BK326 hg); have n6_ := aM (nb BK326 hg).symm; (try clear BK326); (try clear HB); have BK326 := n0_; have HB := n1_; have BK327 := n2_; have GE327 := n4_; have NB326_327 := n5_; have NB327_326 := n6_; clear n0_ n1_ n2_ n4_ n5_ n6_ hb hbox hg; have hnb18 := NB326_327.out; have hnc18 := NB327_326.out; obtain ⟨hcz19_0, hcz19_1, hcz19_2, hcz19_3, hfz19_0, hfz19_1, hfz19_2, hfz19_3⟩ := bc4 BK326; obtain ⟨hcz20_0, hcz20_1, hcz20_2, hcz20_3, hfz20_0, hfz20_1, hfz20_2, hfz20_3⟩ := bc4 BK327))
  go_ret
  exact ⟨by first | rfl | (simp [errW_none, errW_some] <;> rfl) | (simp [*, errW_none, errW_some] <;> rfl), bl⟩
end Go.Proofs.Ytgenbepicnbecaa.PAll
