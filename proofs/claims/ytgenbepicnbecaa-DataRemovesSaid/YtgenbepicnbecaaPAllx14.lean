-- out of a driver of this session's prover over the kit's print: Lean checks it
import Derived.Test.YtgenbepicnbecaaPAllx0
import Derived.Test.YtgenbepicnbecaaPAllx3
import Derived.Test.YtgenbepicnbecaaPAllx13
namespace Go.Proofs.Ytgenbepicnbecaa.PAll
open Go.Proofs.YtgenbepicnbecaaG Go.Shelf Go.Lib
open Go.RowKit Go.Proofs.YtgenbepicnbecaaW.PrintWords Go.Proofs.YtgenbepicnbecaaW.PrintLast Go.Proofs.YtgenbepicnbecaaW.PrintMore
attribute [local go_sem] max2_int min2_int max_two min_two max_three min_three max_four min_four   -- for this text's walks alone
set_option linter.unusedVariables false
set_option linter.unusedSimpArgs false
attribute [local go_sem high] eqA67
def api_Member_68.l0 : Nat → List (S67) → List (S67) → Int → Int → Option (Bool)
 | 0, _, _, _, _ => none
 | k + 1, x0, x1, x12, x13 => if x13 < x12 then (if 0 ≤ x13 then (if x13 < (x0.length : Int) then (if x13 < (x1.length : Int) then (if ((!(((rd_T67 x0 x13).f0.f0) == ((rd_T67 x1 x13).f0.f0)) || (!(((rd_T67 x0 x13).f0.f1) == ((rd_T67 x1 x13).f0.f1)))) || (!((((rd_T67 x0 x13).f1).toList) == (((rd_T67 x1 x13).f1).toList)))) = true then (some false) else (api_Member_68.l0 k x0 x1 x12 (wrap64 (x13 + 1)))) else (none)) else (none)) else (none)) else (some true)
def api_Member_68.f (k : Nat) (l0 : List (S67)) (l1 : List (S67)) : Option (Bool) := if (l0.length : Int) = (l1.length : Int) then (api_Member_68.l0 k l0 l1 (l0.length : Int) 0) else (some false)
theorem api_Member_68.mono_l : ∀ k, (∀ y0 y1 y2 y3, LeO (api_Member_68.l0 k y0 y1 y2 y3) (api_Member_68.l0 (k + 1) y0 y1 y2 y3))
 | 0 => fun _ _ _ _ r h => by simp [api_Member_68.l0] at h
 | k + 1 => by
  have ih0 := api_Member_68.mono_l k
  ·intro y0 y1 y2 y3
   unfold api_Member_68.l0
   repeat' first
   | (with_reducible exact ih0 _ _ _ _)
   | (with_reducible exact LeO.refl _)
   | (with_reducible exact LeO.none _)
   | (with_reducible refine LeO.ite ?_ ?_)
   | (with_reducible refine LeO.bind ?_ (fun _ => ?_))
   | exact ih0 _ _ _ _
   | exact LeO.none _
   | refine LeO.ite ?_ ?_
   | refine LeO.bind ?_ (fun _ => ?_)
theorem api_Member_68.mono : ∀ a0 a1 k, LeO (api_Member_68.f k a0 a1) (api_Member_68.f (k + 1) a0 a1) := by
 intro a0 a1 k
 have ih0 := api_Member_68.mono_l k
 unfold api_Member_68.f
 repeat' first
   | (with_reducible exact ih0 _ _ _ _)
   | (with_reducible exact LeO.refl _)
   | (with_reducible exact LeO.none _)
   | (with_reducible refine LeO.ite ?_ ?_)
   | (with_reducible refine LeO.bind ?_ (fun _ => ?_))
   | exact ih0 _ _ _ _
   | exact LeO.none _
   | refine LeO.ite ?_ ?_
   | refine LeO.bind ?_ (fun _ => ?_)
set_option maxHeartbeats 8000000 in
set_option maxRecDepth 100000 in
theorem api_Member_68.calls (k : Nat) (A0 : Option Addr) (c0 : Nat) (l0 : List (S67)) (A1 : Option Addr) (c1 : Nat) (l1 : List (S67)) (r : Bool) (w : World) (hr0 : Kd.C k67 w A0 l0.length l0) (hc0 : l0.length ≤ c0) (hr1 : Kd.C k67 w A1 l1.length l1) (hc1 : l1.length ≤ c1) (h : api_Member_68.f k l0 l1 = some r) :
  Calls Try.prog 68 #[.slice A0 l0.length c0, .slice A1 l1.length c1] w fun e w' => e = .returned (.bool r) ∧ Drawn0 w w' := by
 have hu67 := Try.underlying67
 have HR0 := aM hr0
 have HC0 := aM hc0
 clear hr0 hc0
 have HR1 := aM hr1
 have HC1 := aM hc1
 clear hr1 hc1
 have H : (if (l0.length : Int) = (l1.length : Int) then (api_Member_68.l0 k l0 l1 (l0.length : Int) 0) else (some false)) = some r := h
 clear h
 by_cases c3 : (l0.length : Int) = (l1.length : Int)
 ·rw [if_pos c3] at H
  have c3b0 : ((l0.length : Int) == (l1.length : Int)) = true := beq_iff_eq.mpr c3
  have c3b1 : ((l0.length : Int) != (l1.length : Int)) = false := bne_eq_false_iff_eq.mpr c3
  have c3b2 : (l0.length == l1.length) = true := by first | simpa using c3 | (simp at c3 ⊢; omega)
  clear c3
  have H' := aM H
  clear H
  go_enter Try.func68, Try.ntmps68
  go_wp2
  repeat (go_quiet (fail); try go_wp2)
  go_loopg [13] k (fun kq v13 w' => ∃ (x13_1 : Int), v13 = .int .i64 x13_1 ∧ Aside0 (api_Member_68.l0 kq l0 l1 (l0.length : Int) x13_1 = some r) ∧ Aside0 (kq ≤ k) ∧ Drawn0 w w')
  case atStart => exact ⟨(0), (by first | rfl | (simp; done) | (simp [*]; done)), H', ⟨Nat.le_refl _⟩, by repeat (first | exact Drawn0.refl _ | apply Drawn0.step)⟩
  case round =>
   clear H'
   try clear c1
   try clear p2
   try clear c3
   try clear c3b0
   try clear c3b1
   try clear c3b2
   obtain ⟨x13_1, rfl, HA, HK1, ⟨m1, rfl⟩⟩ := hrel
   cases gk with
   | zero => exact absurd HA.out (by simp [api_Member_68.l0])
   | succ k1 =>
    have H := HA.out
    clear HA
    simp only [api_Member_68.l0] at H
    by_cases c4 : x13_1 < (l0.length : Int)
    ·rw [if_pos c4] at H
     have c4b0 : decide (x13_1 < (l0.length : Int)) = true := decide_eq_true c4
     clear c4
     by_cases c5 : 0 ≤ x13_1
     ·rw [if_pos c5] at H
      have c5b0 : decide (0 ≤ x13_1) = true := decide_eq_true c5
      clear c5
      by_cases c6 : x13_1 < (l0.length : Int)
      ·rw [if_pos c6] at H
       have c6b0 : decide (x13_1 < (l0.length : Int)) = true := decide_eq_true c6
       clear c6
       by_cases c7 : x13_1 < (l1.length : Int)
       ·rw [if_pos c7] at H
        have c7b0 : decide (x13_1 < (l1.length : Int)) = true := decide_eq_true c7
        clear c7
        by_cases c8 : ((!(((rd_T67 l0 x13_1).f0.f0) == ((rd_T67 l1 x13_1).f0.f0)) || (!(((rd_T67 l0 x13_1).f0.f1) == ((rd_T67 l1 x13_1).f0.f1)))) || (!((((rd_T67 l0 x13_1).f1).toList) == (((rd_T67 l1 x13_1).f1).toList)))) = true
        ·rw [if_pos c8] at H
         have c8b0 : ((!(((rd_T67 l0 x13_1).f0.f0) == ((rd_T67 l1 x13_1).f0.f0)) || (!(((rd_T67 l0 x13_1).f0.f1) == ((rd_T67 l1 x13_1).f0.f1)))) || (!((((rd_T67 l0 x13_1).f1).toList) == (((rd_T67 l1 x13_1).f1).toList)))) = true := c8
         clear c8
         obtain rfl := Option.some.inj H
         have p226 : 0 ≤ (x13_1 : Int) := oT
         have q226 : x13_1 < (l0.length : Int) := oT
         obtain ⟨ad226, e226, hx226_0, hx226_1, hx226_2⟩ := at_T67 HR0.out x13_1 p226 q226
         cases e226
         replace p226 := eq_true p226
         replace q226 := eq_true q226
         have p227 : 0 ≤ (x13_1 : Int) := oT
         have q227 : x13_1 < (l1.length : Int) := oT
         obtain ⟨ad227, e227, hx227_0, hx227_1, hx227_2⟩ := at_T67 HR1.out x13_1 p227 q227
         cases e227
         replace p227 := eq_true p227
         replace q227 := eq_true q227
         go_wp2
         repeat (go_quiet (fail); try go_wp2)
         go_ret
         exact ⟨by first | rfl | (simp; done) | (simp [*]; done), by repeat (first | exact Drawn0.refl _ | apply Drawn0.step)⟩
        ·rw [if_neg c8] at H
         have c8b0 : ((!(((rd_T67 l0 x13_1).f0.f0) == ((rd_T67 l1 x13_1).f0.f0)) || (!(((rd_T67 l0 x13_1).f0.f1) == ((rd_T67 l1 x13_1).f0.f1)))) || (!((((rd_T67 l0 x13_1).f1).toList) == (((rd_T67 l1 x13_1).f1).toList)))) = false := by simpa using c8
         clear c8
         have H' := aM H
         clear H
         have p226 : 0 ≤ (x13_1 : Int) := oT
         have q226 : x13_1 < (l0.length : Int) := oT
         obtain ⟨ad226, e226, hx226_0, hx226_1, hx226_2⟩ := at_T67 HR0.out x13_1 p226 q226
         cases e226
         replace p226 := eq_true p226
         replace q226 := eq_true q226
         have p227 : 0 ≤ (x13_1 : Int) := oT
         have q227 : x13_1 < (l1.length : Int) := oT
         obtain ⟨ad227, e227, hx227_0, hx227_1, hx227_2⟩ := at_T67 HR1.out x13_1 p227 q227
         cases e227
         replace p227 := eq_true p227
         replace q227 := eq_true q227
         go_wp2
         repeat (go_quiet (fail); try go_wp2)
         go_roundg k1
         case measure => have := HK1.out; omega
         case rel => exact ⟨(wrap64 (x13_1 + 1)), (by first | rfl | (simp; done) | (simp [*]; done)), H', ⟨by have := HK1.out; omega⟩, by repeat (first | exact Drawn0.refl _ | apply Drawn0.step)⟩
       ·rw [if_neg c7] at H
        exact absurd H (by simp)
      ·rw [if_neg c6] at H
       exact absurd H (by simp)
     ·rw [if_neg c5] at H
      exact absurd H (by simp)
    ·rw [if_neg c4] at H
     have c4b0 : decide (x13_1 < (l0.length : Int)) = false := decide_eq_false c4
     clear c4
     obtain rfl := Option.some.inj H
     go_wp2
     repeat (go_quiet (fail); try go_wp2)
     go_ret
     exact ⟨by first | rfl | (simp; done) | (simp [*]; done), by repeat (first | exact Drawn0.refl _ | apply Drawn0.step)⟩
 ·rw [if_neg c3] at H
  have c3b0 : ((l0.length : Int) == (l1.length : Int)) = false := beq_eq_false_iff_ne.mpr c3
  have c3b1 : ((l0.length : Int) != (l1.length : Int)) = true := bne_iff_ne.mpr c3
  have c3b2 : (l0.length == l1.length) = false := by first | simpa using c3 | (simp at c3 ⊢; omega)
  obtain rfl := Option.some.inj H
  go_enter Try.func68, Try.ntmps68
  go_wp2
  repeat (go_quiet (fail); try go_wp2)
  go_ret
  exact ⟨by first | rfl | (simp; done) | (simp [*]; done), by repeat (first | exact Drawn0.refl _ | apply Drawn0.step)⟩
def data_Same_3.f (k : Nat) (a0_0 : Int) (l0_1 : List (S67)) (l0_2 : List (S70)) (a1_0 : Int) (l1_1 : List (S67)) (l1_2 : List (S70)) : Option (Bool) := if a0_0 = a1_0 then ((api_Member_68.f k l0_1 l1_1).bind fun t230 => (if t230 = true then ((api_Tag.f k l0_2 l1_2).bind fun t231 => (some t231)) else (some false))) else (some false)
theorem data_Same_3.mono : ∀ a0 a1 a2 a3 a4 a5 k, LeO (data_Same_3.f k a0 a1 a2 a3 a4 a5) (data_Same_3.f (k + 1) a0 a1 a2 a3 a4 a5) := by
 intro a0 a1 a2 a3 a4 a5 k
 unfold data_Same_3.f
 repeat' first
   | (with_reducible exact api_Member_68.mono _ _ _)
   | (with_reducible exact api_Tag.mono _ _ _)
   | (with_reducible exact LeO.refl _)
   | (with_reducible exact LeO.none _)
   | (with_reducible refine LeO.ite ?_ ?_)
   | (with_reducible refine LeO.bind ?_ (fun _ => ?_))
   | exact api_Member_68.mono _ _ _
   | exact api_Tag.mono _ _ _
   | exact LeO.none _
   | refine LeO.ite ?_ ?_
   | refine LeO.bind ?_ (fun _ => ?_)
set_option maxHeartbeats 8000000 in
set_option maxRecDepth 100000 in
theorem data_Same_3.calls (k : Nat) (a0_0 : Int) (A0_1 : Option Addr) (c0_1 : Nat) (l0_1 : List (S67)) (A0_2 : Option Addr) (c0_2 : Nat) (l0_2 : List (S70)) (a1_0 : Int) (A1_1 : Option Addr) (c1_1 : Nat) (l1_1 : List (S67)) (A1_2 : Option Addr) (c1_2 : Nat) (l1_2 : List (S70)) (r : Bool) (w : World) (hr0_1 : Kd.C k67 w A0_1 l0_1.length l0_1) (hc0_1 : l0_1.length ≤ c0_1) (hr0_2 : Kd.C k70 w A0_2 l0_2.length l0_2) (hc0_2 : l0_2.length ≤ c0_2) (hr1_1 : Kd.C k67 w A1_1 l1_1.length l1_1) (hc1_1 : l1_1.length ≤ c1_1) (hr1_2 : Kd.C k70 w A1_2 l1_2.length l1_2) (hc1_2 : l1_2.length ≤ c1_2) (h : data_Same_3.f k a0_0 l0_1 l0_2 a1_0 l1_1 l1_2 = some r) :
  Calls Try.prog 67 #[.agg #[.int .i64 a0_0, .slice A0_1 l0_1.length c0_1, .slice A0_2 l0_2.length c0_2], .agg #[.int .i64 a1_0, .slice A1_1 l1_1.length c1_1, .slice A1_2 l1_2.length c1_2]] w fun e w' => e = .returned (.bool r) ∧ Below w.heap.size w w' := by
 have hu51 := Try.underlying51
 have HR0_1 := aM hr0_1
 have HC0_1 := aM hc0_1
 clear hr0_1 hc0_1
 have HR0_2 := aM hr0_2
 have HC0_2 := aM hc0_2
 clear hr0_2 hc0_2
 have HR1_1 := aM hr1_1
 have HC1_1 := aM hc1_1
 clear hr1_1 hc1_1
 have HR1_2 := aM hr1_2
 have HC1_2 := aM hc1_2
 clear hr1_2 hc1_2
 have HB := aM (Below.refl w.heap.size w)
 have H : (if a0_0 = a1_0 then ((api_Member_68.f k l0_1 l1_1).bind fun t230 => (if t230 = true then ((api_Tag.f k l0_2 l1_2).bind fun t231 => (some t231)) else (some false))) else (some false)) = some r := h
 clear h
 by_cases c3 : a0_0 = a1_0
 ·rw [if_pos c3] at H
  have c3b0 : (a0_0 == a1_0) = true := beq_iff_eq.mpr c3
  have c3b1 : (a0_0 != a1_0) = false := bne_eq_false_iff_eq.mpr c3
  clear c3
  replace H := Option.bind_eq_some_iff.mp H
  obtain ⟨t230, A40, H⟩ := H
  try dsimp only at H
  have A4 := aM A40
  clear A40
  by_cases c5 : t230 = true
  ·subst c5
   have H1 : ((api_Tag.f k l0_2 l1_2).bind fun t231 => (some t231)) = some r := by rw [if_pos rfl] at H; exact H
   clear H
   have H := H1
   clear H1
   replace H := Option.bind_eq_some_iff.mp H
   obtain ⟨t231, A60, H⟩ := H
   try dsimp only at H
   have A6 := aM A60
   clear A60
   obtain rfl := Option.some.inj H
   go_enter Try.func67, Try.ntmps67
   go_wp2_with (first | ((with_reducible refine gate_dst (N := 2) rfl ?_); refine bx (N := 2) (cs := #[.int .i64 a0_0, .slice A0_1 l0_1.length c0_1, .slice A0_2 l0_2.length c0_2]) (t := 51) ?_; intro gb228 hg w7 hbox hb; have n0_ := aM (bS (bl) hb); have n1_ := aM (hbox); have n3_ := aM (gw (w := w) hg); (try clear HB); have HB := n0_; have BK228 := n1_; have GE228 := n3_; clear n0_ n1_ n3_ hb hbox hg) | ((with_reducible refine gate_dst (N := 3) rfl ?_); refine bx (N := 3) (cs := #[.int .i64 a1_0, .slice A1_1 l1_1.length c1_1, .slice A1_2 l1_2.length c1_2]) (t := 51) ?_; intro gb229 hg w8 hbox hb; have n0_ := aM (kB (kl BK228) hb); have n1_ := aM (bS (bl) hb); have n2_ := aM (hbox); have n4_ := aM (gw (w := w) hg); have n5_ := aM (nb BK228 hg); have n6_ := aM (nb BK228 hg).symm; (try clear BK228); (try clear HB); have BK228 := n0_; have HB := n1_; have BK229 := n2_; have GE229 := n4_; have NB228_229 := n5_; have NB229_228 := n6_; clear n0_ n1_ n2_ n4_ n5_ n6_ hb hbox hg; have hnb9 := NB228_229.out; have hnc9 := NB229_228.out; obtain ⟨hcz10_0, hcz10_1, hcz10_2, hfz10_0, hfz10_1, hfz10_2⟩ := bc3 BK228; obtain ⟨hcz11_0, hcz11_1, hcz11_2, hfz11_0, hfz11_1, hfz11_2⟩ := bc3 BK229) | (go_at_call 68; (with_reducible refine (api_Member_68.calls k _ _ l0_1 _ _ l1_1 true _ ?side1 ?side2 ?side3 ?side4 A4.out).mono ?_); (case side1 => exact cl HR0_1); (case side2 => exact HC0_1.out); (case side3 => exact cl HR1_1); (case side4 => exact HC1_1.out); rintro e w' ⟨rfl, ⟨nd, rfl⟩⟩) | (go_at_call 62; (with_reducible refine (api_Tag.calls k _ _ l0_2 _ _ l1_2 t231 _ ?side1 ?side2 ?side3 ?side4 A6.out).mono ?_); (case side1 => repeat (first | exact (Kd.C_below HR0_2.out (bl)) | (with_reducible refine cA ?_ _) | (with_reducible refine cN ?_ _) | (with_reducible refine cD ?_))); (case side2 => exact HC0_2.out); (case side3 => repeat (first | exact (Kd.C_below HR1_2.out (bl)) | (with_reducible refine cA ?_ _) | (with_reducible refine cN ?_ _) | (with_reducible refine cD ?_))); (case side4 => exact HC1_2.out); rintro e w' ⟨rfl, ⟨nd, rfl⟩⟩))
   go_ret
   exact ⟨by first | rfl | (simp [errW_none, errW_some] <;> rfl) | (simp [*, errW_none, errW_some] <;> rfl), bl⟩
  ·replace c5 := Bool.eq_false_iff.mpr c5
   subst c5
   have H1 : (some false) = some r := by rw [if_neg (show ¬ (false = true) by decide)] at H; exact H
   clear H
   have H := H1
   clear H1
   obtain rfl := Option.some.inj H
   go_enter Try.func67, Try.ntmps67
   go_wp2_with (first | ((with_reducible refine gate_dst (N := 2) rfl ?_); refine bx (N := 2) (cs := #[.int .i64 a0_0, .slice A0_1 l0_1.length c0_1, .slice A0_2 l0_2.length c0_2]) (t := 51) ?_; intro gb228 hg w12 hbox hb; have n0_ := aM (bS (bl) hb); have n1_ := aM (hbox); have n3_ := aM (gw (w := w) hg); (try clear HB); have HB := n0_; have BK228 := n1_; have GE228 := n3_; clear n0_ n1_ n3_ hb hbox hg) | ((with_reducible refine gate_dst (N := 3) rfl ?_); refine bx (N := 3) (cs := #[.int .i64 a1_0, .slice A1_1 l1_1.length c1_1, .slice A1_2 l1_2.length c1_2]) (t := 51) ?_; intro gb229 hg w13 hbox hb; have n0_ := aM (kB (kl BK228) hb); have n1_ := aM (bS (bl) hb); have n2_ := aM (hbox); have n4_ := aM (gw (w := w) hg); have n5_ := aM (nb BK228 hg); have n6_ := aM (nb BK228 hg).symm; (try clear BK228); (try clear HB); have BK228 := n0_; have HB := n1_; have BK229 := n2_; have GE229 := n4_; have NB228_229 := n5_; have NB229_228 := n6_; clear n0_ n1_ n2_ n4_ n5_ n6_ hb hbox hg; have hnb14 := NB228_229.out; have hnc14 := NB229_228.out; obtain ⟨hcz15_0, hcz15_1, hcz15_2, hfz15_0, hfz15_1, hfz15_2⟩ := bc3 BK228; obtain ⟨hcz16_0, hcz16_1, hcz16_2, hfz16_0, hfz16_1, hfz16_2⟩ := bc3 BK229) | (go_at_call 68; (with_reducible refine (api_Member_68.calls k _ _ l0_1 _ _ l1_1 false _ ?side1 ?side2 ?side3 ?side4 A4.out).mono ?_); (case side1 => exact cl HR0_1); (case side2 => exact HC0_1.out); (case side3 => exact cl HR1_1); (case side4 => exact HC1_1.out); rintro e w' ⟨rfl, ⟨nd, rfl⟩⟩))
   go_ret
   exact ⟨by first | rfl | (simp [errW_none, errW_some] <;> rfl) | (simp [*, errW_none, errW_some] <;> rfl), bl⟩
 ·rw [if_neg c3] at H
  have c3b0 : (a0_0 == a1_0) = false := beq_eq_false_iff_ne.mpr c3
  have c3b1 : (a0_0 != a1_0) = true := bne_iff_ne.mpr c3
  obtain rfl := Option.some.inj H
  go_enter Try.func67, Try.ntmps67
  go_wp2_with (first | ((with_reducible refine gate_dst (N := 2) rfl ?_); refine bx (N := 2) (cs := #[.int .i64 a0_0, .slice A0_1 l0_1.length c0_1, .slice A0_2 l0_2.length c0_2]) (t := 51) ?_; intro gb228 hg w17 hbox hb; have n0_ := aM (bS (bl) hb); have n1_ := aM (hbox); have n3_ := aM (gw (w := w) hg); (try clear HB); have HB := n0_; have BK228 := n1_; have GE228 := n3_; clear n0_ n1_ n3_ hb hbox hg) | ((with_reducible refine gate_dst (N := 3) rfl ?_); refine bx (N := 3) (cs := #[.int .i64 a1_0, .slice A1_1 l1_1.length c1_1, .slice A1_2 l1_2.length c1_2]) (t := 51) ?_; intro gb229 hg w18 hbox hb; have n0_ := aM (kB (kl BK228) hb); have n1_ := aM (bS (bl) hb); have n2_ := aM (hbox); have n4_ := aM (gw (w := w) hg); have n5_ := aM (nb BK228 hg); have n6_ := aM (nb BK228 hg).symm; (try clear BK228); (try clear HB); have BK228 := n0_; have HB := n1_; have BK229 := n2_; have GE229 := n4_; have NB228_229 := n5_; have NB229_228 := n6_; clear n0_ n1_ n2_ n4_ n5_ n6_ hb hbox hg; have hnb19 := NB228_229.out; have hnc19 := NB229_228.out; obtain ⟨hcz20_0, hcz20_1, hcz20_2, hfz20_0, hfz20_1, hfz20_2⟩ := bc3 BK228; obtain ⟨hcz21_0, hcz21_1, hcz21_2, hfz21_0, hfz21_1, hfz21_2⟩ := bc3 BK229))
  go_ret
  exact ⟨by first | rfl | (simp [errW_none, errW_some] <;> rfl) | (simp [*, errW_none, errW_some] <;> rfl), bl⟩
-- NOT PRINTED: function 66 (api_Rel)
def api_Node_by_data_Same_1.go (k : Nat) : List S39 → List S39 → Option Bool
 | x :: xs, y :: ys => (data_Same_1.f k x.f0 x.f1.f0 x.f1.f1 x.f2 y.f0 y.f1.f0 y.f1.f1 y.f2).bind fun b => if b = true then api_Node_by_data_Same_1.go k xs ys else some false
 | _, _ => some true
def api_Node_by_data_Same_1.f (k : Nat) (l0 : List (S39)) (l1 : List (S39)) : Option (Bool) := if l0.length = l1.length then api_Node_by_data_Same_1.go k l0 l1 else some false
theorem api_Node_by_data_Same_1.mono_go (k : Nat) : ∀ l0 l1, LeO (api_Node_by_data_Same_1.go k l0 l1) (api_Node_by_data_Same_1.go (k + 1) l0 l1)
 | [], _ => LeO.refl _
 | _ :: _, [] => LeO.refl _
 | x :: xs, y :: ys => LeO.bind (data_Same_1.mono _ _ _ _ _ _ _ _ k) (fun b => LeO.ite (api_Node_by_data_Same_1.mono_go k xs ys) (LeO.refl _))
theorem api_Node_by_data_Same_1.mono : ∀ a0 a1 k, LeO (api_Node_by_data_Same_1.f k a0 a1) (api_Node_by_data_Same_1.f (k + 1) a0 a1) := fun a0 a1 k => LeO.ite (api_Node_by_data_Same_1.mono_go k a0 a1) (LeO.refl _)
set_option maxHeartbeats 8000000 in
set_option maxRecDepth 100000 in
theorem api_Node_by_data_Same_1.eqf (k g : Nat) (eg : ∀ args w, (callFunc g args).run Try.prog w = .ok (.enter g args) w) (hq : ∀ (x y : S39) (b : Bool) (A3 : Option Addr) (c3 : Nat) (A3y : Option Addr) (c3y : Nat) (W : World) (hx3 : Kd.C k70 W A3 x.f2.length x.f2) (gx3 : x.f2.length ≤ c3) (hy3 : Kd.C k70 W A3y y.f2.length y.f2) (gy3 : y.f2.length ≤ c3y), data_Same_1.f k x.f0 x.f1.f0 x.f1.f1 x.f2 y.f0 y.f1.f0 y.f1.f1 y.f2 = some b → Calls Try.prog g #[.agg #[.int .i64 x.f0, .int .i64 x.f1.f0, .int .i64 x.f1.f1, .slice A3 x.f2.length c3], .agg #[.int .i64 y.f0, .int .i64 y.f1.f0, .int .i64 y.f1.f1, .slice A3y y.f2.length c3y]] W fun e w' => e = .returned (.bool b) ∧ Below W.heap.size W w') (A0 : Option Addr) (c0 : Nat) (l0 : List (S39)) (A1 : Option Addr) (c1 : Nat) (l1 : List (S39)) (r : Bool) (w : World) (hr0 : Kd.C k39 w A0 l0.length l0) (hc0 : l0.length ≤ c0) (hr1 : Kd.C k39 w A1 l1.length l1) (hc1 : l1.length ≤ c1) (h : api_Node_by_data_Same_1.f k l0 l1 = some r) :
  Calls Try.prog 60 #[.slice A0 l0.length c0, .slice A1 l1.length c1, .func (.func g) #[] #[]] w fun e w' => e = .returned (.bool r) ∧ Below w.heap.size w w' := by
 have hu39 := Try.underlying39
 have hb0 : l0.length ≤ 9223372036854775807 := hr0.2.1
 have hb1 : l1.length ≤ 9223372036854775807 := hr1.2.1
 have HQ := aM hq
 clear hq
 have HR0 := aM hr0
 have HR1 := aM hr1
 clear hr0 hr1
 unfold api_Node_by_data_Same_1.f at h
 by_cases hl : l0.length = l1.length
 ·rw [if_pos hl] at h
  have HH := aM h
  have HL := aM hl
  have e0 : ((l0.length : Int) == (l1.length : Int)) = true := beq_iff_eq.mpr (by omega)
  have e1 : ((l0.length : Int) != (l1.length : Int)) = false := bne_eq_false_iff_eq.mpr (by omega)
  clear h hl
  go_enter Try.func60, Try.ntmps60
  go_wp2
  clear e0 e1
  go_loopg [17] l0.length (fun gg v17 wr => ∃ i : Nat, i ≤ l0.length ∧ l0.length - i ≤ gg ∧ v17 = .int .i64 i ∧ Aside0 (api_Node_by_data_Same_1.go k (l0.drop i) (l1.drop i) = some r) ∧ Aside0 (Below w.heap.size w wr))
  case atStart => exact ⟨0, by omega, by omega, rfl, ⟨by rw [List.drop_zero, List.drop_zero]; exact HH.out⟩, ⟨Below.refl _ _⟩⟩
  case round =>
   obtain ⟨i, hi, hg, rfl, GO, BW⟩ := hrel
   by_cases hlt : i < l0.length
   ·have hltI : (i : Int) < (l0.length : Int) := by omega
    have hlt1 : i < l1.length := by have := HL.out; omega
    have hltJ : (i : Int) < (l1.length : Int) := by omega
    obtain ⟨ad, A3, c3, e0, hx0, hx1, hx2, hx3, hl3, hi3⟩ := at_T39 (Kd.C_below HR0.out BW.out) (i : Int) (by omega) hltI
    cases e0
    obtain ⟨bd, A3y, c3y, e0, hy0, hy1, hy2, hy3, hm3, hj3⟩ := at_T39 (Kd.C_below HR1.out BW.out) (i : Int) (by omega) hltJ
    cases e0
    have hx : rd_T39 l0 (i : Int) = l0[i] := by unfold rd_T39; rw [Int.toNat_natCast, List.getD_eq_getElem?_getD, List.getElem?_eq_getElem hlt]; rfl
    have hy : rd_T39 l1 (i : Int) = l1[i] := by unfold rd_T39; rw [Int.toNat_natCast, List.getD_eq_getElem?_getD, List.getElem?_eq_getElem hlt1]; rfl
    rw [hx] at hx0 hx1 hx2 hx3 hl3 hi3
    rw [hy] at hy0 hy1 hy2 hy3 hm3 hj3
    rw [Int.toNat_natCast] at hx0 hx1 hx2 hx3 hy0 hy1 hy2 hy3
    have G := GO.out
    rw [List.drop_eq_getElem_cons hlt, List.drop_eq_getElem_cons hlt1] at G
    simp only [api_Node_by_data_Same_1.go] at G
    clear hx hy GO
    generalize l0[i] = x at hx0 hx1 hx2 hx3 hl3 hi3 G
    generalize l1[i] = y at hy0 hy1 hy2 hy3 hm3 hj3 G
    obtain ⟨b, hb, hG⟩ := Option.bind_eq_some_iff.mp G
    have hcall := HQ.out x y b A3 c3 A3y c3y ((wr.alloc (.cells #[.int .i64 x.f0, .int .i64 x.f1.f0, .int .i64 x.f1.f1, .slice A3 x.f2.length c3] 39)).alloc (.cells #[.int .i64 y.f0, .int .i64 y.f1.f0, .int .i64 y.f1.f1, .slice A3y y.f2.length c3y] 39)) (cA (cA hi3 _) _) hl3 (cA (cA hj3 _) _) hm3 hb
    have HCALL := aM hcall
    have hbw : Below wr.heap.size wr (wr.alloc (.cells #[.int .i64 x.f0, .int .i64 x.f1.f0, .int .i64 x.f1.f1, .slice A3 x.f2.length c3] 39)) := (Below.refl _ _).alloc (Nat.le_refl _) _
    replace hy0 := (hbw.cell (World.block_lt_of_cell? wr _ hy0)).trans hy0; replace hy1 := (hbw.cell (World.block_lt_of_cell? wr _ hy1)).trans hy1; replace hy2 := (hbw.cell (World.block_lt_of_cell? wr _ hy2)).trans hy2; replace hy3 := (hbw.cell (World.block_lt_of_cell? wr _ hy3)).trans hy3
    clear hbw hcall hi3 hj3 hl3 hm3 hb G
    cases b with
    | true =>
     have HG := aM ((if_pos rfl).symm.trans hG)
     clear hG
     go_wp2_with (first | (go_at_fn g; refine HCALL.out.mono ?_; rintro e w' ⟨rfl, hb'⟩; have HB2 := aM (BW.out.trans (((bA (bA (Below.refl wr.heap.size wr) _) _).trans (hb'.mono (bA (bA (Below.refl wr.heap.size wr) _) _).size)).mono BW.out.size)); clear hb') | go_in)
     go_roundg (l0.length - (i + 1))
     case measure => omega
     case rel => exact ⟨i + 1, by omega, by omega, by go_num, HG, HB2⟩
    | false =>
     have HG := aM (Option.some.inj ((if_neg (by simp)).symm.trans hG))
     clear hG
     go_wp2_with (first | (go_at_fn g; refine HCALL.out.mono ?_; rintro e w' ⟨rfl, hb'⟩; have HB2 := aM (BW.out.trans (((bA (bA (Below.refl wr.heap.size wr) _) _).trans (hb'.mono (bA (bA (Below.refl wr.heap.size wr) _) _).size)).mono BW.out.size)); clear hb') | go_in)
     go_ret
     exact ⟨by rw [← HG.out] <;> rfl, HB2.out⟩
   ·have : i = l0.length := by omega
    subst this
    have HG := aM (show r = true from by
     have := GO.out
     rw [List.drop_length, HL.out, List.drop_length] at this
     exact (Option.some.inj this).symm)
    go_wp2
    go_ret
    exact ⟨by rw [HG.out] <;> rfl, BW.out⟩
 ·rw [if_neg hl] at h
  have HH := aM (Option.some.inj h)
  have e0 : ((l0.length : Int) == (l1.length : Int)) = false := beq_eq_false_iff_ne.mpr (by omega)
  have e1 : ((l0.length : Int) != (l1.length : Int)) = true := bne_iff_ne.mpr (by omega)
  clear h hl
  go_enter Try.func60, Try.ntmps60
  go_wp2
  go_ret
  exact ⟨by rw [← HH.out] <;> rfl, Below.refl _ _⟩
theorem api_Node_by_data_Same_1.calls (k : Nat) (A0 : Option Addr) (c0 : Nat) (l0 : List (S39)) (A1 : Option Addr) (c1 : Nat) (l1 : List (S39)) (r : Bool) (w : World) (hr0 : Kd.C k39 w A0 l0.length l0) (hc0 : l0.length ≤ c0) (hr1 : Kd.C k39 w A1 l1.length l1) (hc1 : l1.length ≤ c1) (h : api_Node_by_data_Same_1.f k l0 l1 = some r) :
  Calls Try.prog 60 #[.slice A0 l0.length c0, .slice A1 l1.length c1, .func (.func 61) #[] #[]] w fun e w' => e = .returned (.bool r) ∧ Below w.heap.size w w' :=
 api_Node_by_data_Same_1.eqf k 61 (enters_of Try.func61 (by kernel_rfl) rfl) (fun x y b A3 c3 A3y c3y W hx3 gx3 hy3 gy3 hb => data_Same_1.calls k x.f0 x.f1.f0 x.f1.f1 _ _ x.f2 y.f0 y.f1.f0 y.f1.f1 _ _ y.f2 b W hx3 gx3 hy3 gy3 hb) A0 c0 l0 A1 c1 l1 r w hr0 hc0 hr1 hc1 h
def api_Way_by_data_Same_2.go (k : Nat) : List S45 → List S45 → Option Bool
 | x :: xs, y :: ys => (data_Same_2.f k x.f0 x.f1 x.f2 y.f0 y.f1 y.f2).bind fun b => if b = true then api_Way_by_data_Same_2.go k xs ys else some false
 | _, _ => some true
def api_Way_by_data_Same_2.f (k : Nat) (l0 : List (S45)) (l1 : List (S45)) : Option (Bool) := if l0.length = l1.length then api_Way_by_data_Same_2.go k l0 l1 else some false
theorem api_Way_by_data_Same_2.mono_go (k : Nat) : ∀ l0 l1, LeO (api_Way_by_data_Same_2.go k l0 l1) (api_Way_by_data_Same_2.go (k + 1) l0 l1)
 | [], _ => LeO.refl _
 | _ :: _, [] => LeO.refl _
 | x :: xs, y :: ys => LeO.bind (data_Same_2.mono _ _ _ _ _ _ k) (fun b => LeO.ite (api_Way_by_data_Same_2.mono_go k xs ys) (LeO.refl _))
theorem api_Way_by_data_Same_2.mono : ∀ a0 a1 k, LeO (api_Way_by_data_Same_2.f k a0 a1) (api_Way_by_data_Same_2.f (k + 1) a0 a1) := fun a0 a1 k => LeO.ite (api_Way_by_data_Same_2.mono_go k a0 a1) (LeO.refl _)
set_option maxHeartbeats 8000000 in
set_option maxRecDepth 100000 in
theorem api_Way_by_data_Same_2.eqf (k g : Nat) (eg : ∀ args w, (callFunc g args).run Try.prog w = .ok (.enter g args) w) (hq : ∀ (x y : S45) (b : Bool) (A1 : Option Addr) (c1 : Nat) (A2 : Option Addr) (c2 : Nat) (A1y : Option Addr) (c1y : Nat) (A2y : Option Addr) (c2y : Nat) (W : World) (hx1 : Kd.C (Kd.int .i64) W A1 x.f1.length x.f1) (gx1 : x.f1.length ≤ c1) (hx2 : Kd.C k70 W A2 x.f2.length x.f2) (gx2 : x.f2.length ≤ c2) (hy1 : Kd.C (Kd.int .i64) W A1y y.f1.length y.f1) (gy1 : y.f1.length ≤ c1y) (hy2 : Kd.C k70 W A2y y.f2.length y.f2) (gy2 : y.f2.length ≤ c2y), data_Same_2.f k x.f0 x.f1 x.f2 y.f0 y.f1 y.f2 = some b → Calls Try.prog g #[.agg #[.int .i64 x.f0, .slice A1 x.f1.length c1, .slice A2 x.f2.length c2], .agg #[.int .i64 y.f0, .slice A1y y.f1.length c1y, .slice A2y y.f2.length c2y]] W fun e w' => e = .returned (.bool b) ∧ Below W.heap.size W w') (A0 : Option Addr) (c0 : Nat) (l0 : List (S45)) (A1 : Option Addr) (c1 : Nat) (l1 : List (S45)) (r : Bool) (w : World) (hr0 : Kd.C k45 w A0 l0.length l0) (hc0 : l0.length ≤ c0) (hr1 : Kd.C k45 w A1 l1.length l1) (hc1 : l1.length ≤ c1) (h : api_Way_by_data_Same_2.f k l0 l1 = some r) :
  Calls Try.prog 63 #[.slice A0 l0.length c0, .slice A1 l1.length c1, .func (.func g) #[] #[]] w fun e w' => e = .returned (.bool r) ∧ Below w.heap.size w w' := by
 have hu45 := Try.underlying45
 have hb0 : l0.length ≤ 9223372036854775807 := hr0.2.1
 have hb1 : l1.length ≤ 9223372036854775807 := hr1.2.1
 have HQ := aM hq
 clear hq
 have HR0 := aM hr0
 have HR1 := aM hr1
 clear hr0 hr1
 unfold api_Way_by_data_Same_2.f at h
 by_cases hl : l0.length = l1.length
 ·rw [if_pos hl] at h
  have HH := aM h
  have HL := aM hl
  have e0 : ((l0.length : Int) == (l1.length : Int)) = true := beq_iff_eq.mpr (by omega)
  have e1 : ((l0.length : Int) != (l1.length : Int)) = false := bne_eq_false_iff_eq.mpr (by omega)
  clear h hl
  go_enter Try.func63, Try.ntmps63
  go_wp2
  clear e0 e1
  go_loopg [17] l0.length (fun gg v17 wr => ∃ i : Nat, i ≤ l0.length ∧ l0.length - i ≤ gg ∧ v17 = .int .i64 i ∧ Aside0 (api_Way_by_data_Same_2.go k (l0.drop i) (l1.drop i) = some r) ∧ Aside0 (Below w.heap.size w wr))
  case atStart => exact ⟨0, by omega, by omega, rfl, ⟨by rw [List.drop_zero, List.drop_zero]; exact HH.out⟩, ⟨Below.refl _ _⟩⟩
  case round =>
   obtain ⟨i, hi, hg, rfl, GO, BW⟩ := hrel
   by_cases hlt : i < l0.length
   ·have hltI : (i : Int) < (l0.length : Int) := by omega
    have hlt1 : i < l1.length := by have := HL.out; omega
    have hltJ : (i : Int) < (l1.length : Int) := by omega
    obtain ⟨ad, A1, c1, A2, c2, e0, hx0, hx1, hx2, hl1, hi1, hl2, hi2⟩ := at_T45 (Kd.C_below HR0.out BW.out) (i : Int) (by omega) hltI
    cases e0
    obtain ⟨bd, A1y, c1y, A2y, c2y, e0, hy0, hy1, hy2, hm1, hj1, hm2, hj2⟩ := at_T45 (Kd.C_below HR1.out BW.out) (i : Int) (by omega) hltJ
    cases e0
    have hx : rd_T45 l0 (i : Int) = l0[i] := by unfold rd_T45; rw [Int.toNat_natCast, List.getD_eq_getElem?_getD, List.getElem?_eq_getElem hlt]; rfl
    have hy : rd_T45 l1 (i : Int) = l1[i] := by unfold rd_T45; rw [Int.toNat_natCast, List.getD_eq_getElem?_getD, List.getElem?_eq_getElem hlt1]; rfl
    rw [hx] at hx0 hx1 hx2 hl1 hi1 hl2 hi2
    rw [hy] at hy0 hy1 hy2 hm1 hj1 hm2 hj2
    rw [Int.toNat_natCast] at hx0 hx1 hx2 hy0 hy1 hy2
    have G := GO.out
    rw [List.drop_eq_getElem_cons hlt, List.drop_eq_getElem_cons hlt1] at G
    simp only [api_Way_by_data_Same_2.go] at G
    clear hx hy GO
    generalize l0[i] = x at hx0 hx1 hx2 hl1 hi1 hl2 hi2 G
    generalize l1[i] = y at hy0 hy1 hy2 hm1 hj1 hm2 hj2 G
    obtain ⟨b, hb, hG⟩ := Option.bind_eq_some_iff.mp G
    have hcall := HQ.out x y b A1 c1 A2 c2 A1y c1y A2y c2y ((wr.alloc (.cells #[.int .i64 x.f0, .slice A1 x.f1.length c1, .slice A2 x.f2.length c2] 45)).alloc (.cells #[.int .i64 y.f0, .slice A1y y.f1.length c1y, .slice A2y y.f2.length c2y] 45)) (cA (cA hi1 _) _) hl1 (cA (cA hi2 _) _) hl2 (cA (cA hj1 _) _) hm1 (cA (cA hj2 _) _) hm2 hb
    have HCALL := aM hcall
    have hbw : Below wr.heap.size wr (wr.alloc (.cells #[.int .i64 x.f0, .slice A1 x.f1.length c1, .slice A2 x.f2.length c2] 45)) := (Below.refl _ _).alloc (Nat.le_refl _) _
    replace hy0 := (hbw.cell (World.block_lt_of_cell? wr _ hy0)).trans hy0; replace hy1 := (hbw.cell (World.block_lt_of_cell? wr _ hy1)).trans hy1; replace hy2 := (hbw.cell (World.block_lt_of_cell? wr _ hy2)).trans hy2
    clear hbw hcall hi1 hj1 hl1 hm1 hi2 hj2 hl2 hm2 hb G
    cases b with
    | true =>
     have HG := aM ((if_pos rfl).symm.trans hG)
     clear hG
     go_wp2_with (first | (go_at_fn g; refine HCALL.out.mono ?_; rintro e w' ⟨rfl, hb'⟩; have HB2 := aM (BW.out.trans (((bA (bA (Below.refl wr.heap.size wr) _) _).trans (hb'.mono (bA (bA (Below.refl wr.heap.size wr) _) _).size)).mono BW.out.size)); clear hb') | go_in)
     go_roundg (l0.length - (i + 1))
     case measure => omega
     case rel => exact ⟨i + 1, by omega, by omega, by go_num, HG, HB2⟩
    | false =>
     have HG := aM (Option.some.inj ((if_neg (by simp)).symm.trans hG))
     clear hG
     go_wp2_with (first | (go_at_fn g; refine HCALL.out.mono ?_; rintro e w' ⟨rfl, hb'⟩; have HB2 := aM (BW.out.trans (((bA (bA (Below.refl wr.heap.size wr) _) _).trans (hb'.mono (bA (bA (Below.refl wr.heap.size wr) _) _).size)).mono BW.out.size)); clear hb') | go_in)
     go_ret
     exact ⟨by rw [← HG.out] <;> rfl, HB2.out⟩
   ·have : i = l0.length := by omega
    subst this
    have HG := aM (show r = true from by
     have := GO.out
     rw [List.drop_length, HL.out, List.drop_length] at this
     exact (Option.some.inj this).symm)
    go_wp2
    go_ret
    exact ⟨by rw [HG.out] <;> rfl, BW.out⟩
 ·rw [if_neg hl] at h
  have HH := aM (Option.some.inj h)
  have e0 : ((l0.length : Int) == (l1.length : Int)) = false := beq_eq_false_iff_ne.mpr (by omega)
  have e1 : ((l0.length : Int) != (l1.length : Int)) = true := bne_iff_ne.mpr (by omega)
  clear h hl
  go_enter Try.func63, Try.ntmps63
  go_wp2
  go_ret
  exact ⟨by rw [← HH.out] <;> rfl, Below.refl _ _⟩
theorem api_Way_by_data_Same_2.calls (k : Nat) (A0 : Option Addr) (c0 : Nat) (l0 : List (S45)) (A1 : Option Addr) (c1 : Nat) (l1 : List (S45)) (r : Bool) (w : World) (hr0 : Kd.C k45 w A0 l0.length l0) (hc0 : l0.length ≤ c0) (hr1 : Kd.C k45 w A1 l1.length l1) (hc1 : l1.length ≤ c1) (h : api_Way_by_data_Same_2.f k l0 l1 = some r) :
  Calls Try.prog 63 #[.slice A0 l0.length c0, .slice A1 l1.length c1, .func (.func 64) #[] #[]] w fun e w' => e = .returned (.bool r) ∧ Below w.heap.size w w' :=
 api_Way_by_data_Same_2.eqf k 64 (enters_of Try.func64 (by kernel_rfl) rfl) (fun x y b A1 c1 A2 c2 A1y c1y A2y c2y W hx1 gx1 hx2 gx2 hy1 gy1 hy2 gy2 hb => data_Same_2.calls k x.f0 _ _ x.f1 _ _ x.f2 y.f0 _ _ y.f1 _ _ y.f2 b W hx1 gx1 hx2 gx2 hy1 gy1 hy2 gy2 hb) A0 c0 l0 A1 c1 l1 r w hr0 hc0 hr1 hc1 h
def api_Rel_by_data_Same_3.go (k : Nat) : List S51 → List S51 → Option Bool
 | x :: xs, y :: ys => (data_Same_3.f k x.f0 x.f1 x.f2 y.f0 y.f1 y.f2).bind fun b => if b = true then api_Rel_by_data_Same_3.go k xs ys else some false
 | _, _ => some true
def api_Rel_by_data_Same_3.f (k : Nat) (l0 : List (S51)) (l1 : List (S51)) : Option (Bool) := if l0.length = l1.length then api_Rel_by_data_Same_3.go k l0 l1 else some false
theorem api_Rel_by_data_Same_3.mono_go (k : Nat) : ∀ l0 l1, LeO (api_Rel_by_data_Same_3.go k l0 l1) (api_Rel_by_data_Same_3.go (k + 1) l0 l1)
 | [], _ => LeO.refl _
 | _ :: _, [] => LeO.refl _
 | x :: xs, y :: ys => LeO.bind (data_Same_3.mono _ _ _ _ _ _ k) (fun b => LeO.ite (api_Rel_by_data_Same_3.mono_go k xs ys) (LeO.refl _))
theorem api_Rel_by_data_Same_3.mono : ∀ a0 a1 k, LeO (api_Rel_by_data_Same_3.f k a0 a1) (api_Rel_by_data_Same_3.f (k + 1) a0 a1) := fun a0 a1 k => LeO.ite (api_Rel_by_data_Same_3.mono_go k a0 a1) (LeO.refl _)
set_option maxHeartbeats 8000000 in
set_option maxRecDepth 100000 in
theorem api_Rel_by_data_Same_3.eqf (k g : Nat) (eg : ∀ args w, (callFunc g args).run Try.prog w = .ok (.enter g args) w) (hq : ∀ (x y : S51) (b : Bool) (A1 : Option Addr) (c1 : Nat) (A2 : Option Addr) (c2 : Nat) (A1y : Option Addr) (c1y : Nat) (A2y : Option Addr) (c2y : Nat) (W : World) (hx1 : Kd.C k67 W A1 x.f1.length x.f1) (gx1 : x.f1.length ≤ c1) (hx2 : Kd.C k70 W A2 x.f2.length x.f2) (gx2 : x.f2.length ≤ c2) (hy1 : Kd.C k67 W A1y y.f1.length y.f1) (gy1 : y.f1.length ≤ c1y) (hy2 : Kd.C k70 W A2y y.f2.length y.f2) (gy2 : y.f2.length ≤ c2y), data_Same_3.f k x.f0 x.f1 x.f2 y.f0 y.f1 y.f2 = some b → Calls Try.prog g #[.agg #[.int .i64 x.f0, .slice A1 x.f1.length c1, .slice A2 x.f2.length c2], .agg #[.int .i64 y.f0, .slice A1y y.f1.length c1y, .slice A2y y.f2.length c2y]] W fun e w' => e = .returned (.bool b) ∧ Below W.heap.size W w') (A0 : Option Addr) (c0 : Nat) (l0 : List (S51)) (A1 : Option Addr) (c1 : Nat) (l1 : List (S51)) (r : Bool) (w : World) (hr0 : Kd.C k51 w A0 l0.length l0) (hc0 : l0.length ≤ c0) (hr1 : Kd.C k51 w A1 l1.length l1) (hc1 : l1.length ≤ c1) (h : api_Rel_by_data_Same_3.f k l0 l1 = some r) :
  Calls Try.prog 66 #[.slice A0 l0.length c0, .slice A1 l1.length c1, .func (.func g) #[] #[]] w fun e w' => e = .returned (.bool r) ∧ Below w.heap.size w w' := by
 have hu51 := Try.underlying51
 have hb0 : l0.length ≤ 9223372036854775807 := hr0.2.1
 have hb1 : l1.length ≤ 9223372036854775807 := hr1.2.1
 have HQ := aM hq
 clear hq
 have HR0 := aM hr0
 have HR1 := aM hr1
 clear hr0 hr1
 unfold api_Rel_by_data_Same_3.f at h
 by_cases hl : l0.length = l1.length
 ·rw [if_pos hl] at h
  have HH := aM h
  have HL := aM hl
  have e0 : ((l0.length : Int) == (l1.length : Int)) = true := beq_iff_eq.mpr (by omega)
  have e1 : ((l0.length : Int) != (l1.length : Int)) = false := bne_eq_false_iff_eq.mpr (by omega)
  clear h hl
  go_enter Try.func66, Try.ntmps66
  go_wp2
  clear e0 e1
  go_loopg [17] l0.length (fun gg v17 wr => ∃ i : Nat, i ≤ l0.length ∧ l0.length - i ≤ gg ∧ v17 = .int .i64 i ∧ Aside0 (api_Rel_by_data_Same_3.go k (l0.drop i) (l1.drop i) = some r) ∧ Aside0 (Below w.heap.size w wr))
  case atStart => exact ⟨0, by omega, by omega, rfl, ⟨by rw [List.drop_zero, List.drop_zero]; exact HH.out⟩, ⟨Below.refl _ _⟩⟩
  case round =>
   obtain ⟨i, hi, hg, rfl, GO, BW⟩ := hrel
   by_cases hlt : i < l0.length
   ·have hltI : (i : Int) < (l0.length : Int) := by omega
    have hlt1 : i < l1.length := by have := HL.out; omega
    have hltJ : (i : Int) < (l1.length : Int) := by omega
    obtain ⟨ad, A1, c1, A2, c2, e0, hx0, hx1, hx2, hl1, hi1, hl2, hi2⟩ := at_T51 (Kd.C_below HR0.out BW.out) (i : Int) (by omega) hltI
    cases e0
    obtain ⟨bd, A1y, c1y, A2y, c2y, e0, hy0, hy1, hy2, hm1, hj1, hm2, hj2⟩ := at_T51 (Kd.C_below HR1.out BW.out) (i : Int) (by omega) hltJ
    cases e0
    have hx : rd_T51 l0 (i : Int) = l0[i] := by unfold rd_T51; rw [Int.toNat_natCast, List.getD_eq_getElem?_getD, List.getElem?_eq_getElem hlt]; rfl
    have hy : rd_T51 l1 (i : Int) = l1[i] := by unfold rd_T51; rw [Int.toNat_natCast, List.getD_eq_getElem?_getD, List.getElem?_eq_getElem hlt1]; rfl
    rw [hx] at hx0 hx1 hx2 hl1 hi1 hl2 hi2
    rw [hy] at hy0 hy1 hy2 hm1 hj1 hm2 hj2
    rw [Int.toNat_natCast] at hx0 hx1 hx2 hy0 hy1 hy2
    have G := GO.out
    rw [List.drop_eq_getElem_cons hlt, List.drop_eq_getElem_cons hlt1] at G
    simp only [api_Rel_by_data_Same_3.go] at G
    clear hx hy GO
    generalize l0[i] = x at hx0 hx1 hx2 hl1 hi1 hl2 hi2 G
    generalize l1[i] = y at hy0 hy1 hy2 hm1 hj1 hm2 hj2 G
    obtain ⟨b, hb, hG⟩ := Option.bind_eq_some_iff.mp G
    have hcall := HQ.out x y b A1 c1 A2 c2 A1y c1y A2y c2y ((wr.alloc (.cells #[.int .i64 x.f0, .slice A1 x.f1.length c1, .slice A2 x.f2.length c2] 51)).alloc (.cells #[.int .i64 y.f0, .slice A1y y.f1.length c1y, .slice A2y y.f2.length c2y] 51)) (cA (cA hi1 _) _) hl1 (cA (cA hi2 _) _) hl2 (cA (cA hj1 _) _) hm1 (cA (cA hj2 _) _) hm2 hb
    have HCALL := aM hcall
    have hbw : Below wr.heap.size wr (wr.alloc (.cells #[.int .i64 x.f0, .slice A1 x.f1.length c1, .slice A2 x.f2.length c2] 51)) := (Below.refl _ _).alloc (Nat.le_refl _) _
    replace hy0 := (hbw.cell (World.block_lt_of_cell? wr _ hy0)).trans hy0; replace hy1 := (hbw.cell (World.block_lt_of_cell? wr _ hy1)).trans hy1; replace hy2 := (hbw.cell (World.block_lt_of_cell? wr _ hy2)).trans hy2
    clear hbw hcall hi1 hj1 hl1 hm1 hi2 hj2 hl2 hm2 hb G
    cases b with
    | true =>
     have HG := aM ((if_pos rfl).symm.trans hG)
     clear hG
     go_wp2_with (first | (go_at_fn g; refine HCALL.out.mono ?_; rintro e w' ⟨rfl, hb'⟩; have HB2 := aM (BW.out.trans (((bA (bA (Below.refl wr.heap.size wr) _) _).trans (hb'.mono (bA (bA (Below.refl wr.heap.size wr) _) _).size)).mono BW.out.size)); clear hb') | go_in)
     go_roundg (l0.length - (i + 1))
     case measure => omega
     case rel => exact ⟨i + 1, by omega, by omega, by go_num, HG, HB2⟩
    | false =>
     have HG := aM (Option.some.inj ((if_neg (by simp)).symm.trans hG))
     clear hG
     go_wp2_with (first | (go_at_fn g; refine HCALL.out.mono ?_; rintro e w' ⟨rfl, hb'⟩; have HB2 := aM (BW.out.trans (((bA (bA (Below.refl wr.heap.size wr) _) _).trans (hb'.mono (bA (bA (Below.refl wr.heap.size wr) _) _).size)).mono BW.out.size)); clear hb') | go_in)
     go_ret
     exact ⟨by rw [← HG.out] <;> rfl, HB2.out⟩
   ·have : i = l0.length := by omega
    subst this
    have HG := aM (show r = true from by
     have := GO.out
     rw [List.drop_length, HL.out, List.drop_length] at this
     exact (Option.some.inj this).symm)
    go_wp2
    go_ret
    exact ⟨by rw [HG.out] <;> rfl, BW.out⟩
 ·rw [if_neg hl] at h
  have HH := aM (Option.some.inj h)
  have e0 : ((l0.length : Int) == (l1.length : Int)) = false := beq_eq_false_iff_ne.mpr (by omega)
  have e1 : ((l0.length : Int) != (l1.length : Int)) = true := bne_iff_ne.mpr (by omega)
  clear h hl
  go_enter Try.func66, Try.ntmps66
  go_wp2
  go_ret
  exact ⟨by rw [← HH.out] <;> rfl, Below.refl _ _⟩
theorem api_Rel_by_data_Same_3.calls (k : Nat) (A0 : Option Addr) (c0 : Nat) (l0 : List (S51)) (A1 : Option Addr) (c1 : Nat) (l1 : List (S51)) (r : Bool) (w : World) (hr0 : Kd.C k51 w A0 l0.length l0) (hc0 : l0.length ≤ c0) (hr1 : Kd.C k51 w A1 l1.length l1) (hc1 : l1.length ≤ c1) (h : api_Rel_by_data_Same_3.f k l0 l1 = some r) :
  Calls Try.prog 66 #[.slice A0 l0.length c0, .slice A1 l1.length c1, .func (.func 67) #[] #[]] w fun e w' => e = .returned (.bool r) ∧ Below w.heap.size w w' :=
 api_Rel_by_data_Same_3.eqf k 67 (enters_of Try.func67 (by kernel_rfl) rfl) (fun x y b A1 c1 A2 c2 A1y c1y A2y c2y W hx1 gx1 hx2 gx2 hy1 gy1 hy2 gy2 hb => data_Same_3.calls k x.f0 _ _ x.f1 _ _ x.f2 y.f0 _ _ y.f1 _ _ y.f2 b W hx1 gx1 hx2 gx2 hy1 gy1 hy2 gy2 hb) A0 c0 l0 A1 c1 l1 r w hr0 hc0 hr1 hc1 h
def data_Same.f (k : Nat) (l0_0 : List (S39)) (l0_1 : List (S45)) (l0_2 : List (S51)) (l1_0 : List (S39)) (l1_1 : List (S45)) (l1_2 : List (S51)) : Option (Bool) := (api_Node_by_data_Same_1.f k l0_0 l1_0).bind fun t234 => (if t234 = true then ((api_Way_by_data_Same_2.f k l0_1 l1_1).bind fun t235 => (if t235 = true then ((api_Rel_by_data_Same_3.f k l0_2 l1_2).bind fun t236 => (some t236)) else (some false))) else (some false))
theorem data_Same.mono : ∀ a0 a1 a2 a3 a4 a5 k, LeO (data_Same.f k a0 a1 a2 a3 a4 a5) (data_Same.f (k + 1) a0 a1 a2 a3 a4 a5) := by
 intro a0 a1 a2 a3 a4 a5 k
 unfold data_Same.f
 repeat' first
   | (with_reducible exact api_Node_by_data_Same_1.mono _ _ _)
   | (with_reducible exact api_Rel_by_data_Same_3.mono _ _ _)
   | (with_reducible exact api_Way_by_data_Same_2.mono _ _ _)
   | (with_reducible exact LeO.refl _)
   | (with_reducible exact LeO.none _)
   | (with_reducible refine LeO.ite ?_ ?_)
   | (with_reducible refine LeO.bind ?_ (fun _ => ?_))
   | exact api_Node_by_data_Same_1.mono _ _ _
   | exact api_Rel_by_data_Same_3.mono _ _ _
   | exact api_Way_by_data_Same_2.mono _ _ _
   | exact LeO.none _
   | refine LeO.ite ?_ ?_
   | refine LeO.bind ?_ (fun _ => ?_)
set_option maxHeartbeats 8000000 in
set_option maxRecDepth 100000 in
theorem data_Same.calls (k : Nat) (A0_0 : Option Addr) (c0_0 : Nat) (l0_0 : List (S39)) (A0_1 : Option Addr) (c0_1 : Nat) (l0_1 : List (S45)) (A0_2 : Option Addr) (c0_2 : Nat) (l0_2 : List (S51)) (A1_0 : Option Addr) (c1_0 : Nat) (l1_0 : List (S39)) (A1_1 : Option Addr) (c1_1 : Nat) (l1_1 : List (S45)) (A1_2 : Option Addr) (c1_2 : Nat) (l1_2 : List (S51)) (r : Bool) (w : World) (hr0_0 : Kd.C k39 w A0_0 l0_0.length l0_0) (hc0_0 : l0_0.length ≤ c0_0) (hr0_1 : Kd.C k45 w A0_1 l0_1.length l0_1) (hc0_1 : l0_1.length ≤ c0_1) (hr0_2 : Kd.C k51 w A0_2 l0_2.length l0_2) (hc0_2 : l0_2.length ≤ c0_2) (hr1_0 : Kd.C k39 w A1_0 l1_0.length l1_0) (hc1_0 : l1_0.length ≤ c1_0) (hr1_1 : Kd.C k45 w A1_1 l1_1.length l1_1) (hc1_1 : l1_1.length ≤ c1_1) (hr1_2 : Kd.C k51 w A1_2 l1_2.length l1_2) (hc1_2 : l1_2.length ≤ c1_2) (h : data_Same.f k l0_0 l0_1 l0_2 l1_0 l1_1 l1_2 = some r) :
  Calls Try.prog 31 #[.agg #[.slice A0_0 l0_0.length c0_0, .slice A0_1 l0_1.length c0_1, .slice A0_2 l0_2.length c0_2], .agg #[.slice A1_0 l1_0.length c1_0, .slice A1_1 l1_1.length c1_1, .slice A1_2 l1_2.length c1_2]] w fun e w' => e = .returned (.bool r) ∧ Below w.heap.size w w' := by
 have hu26 := Try.underlying26
 have HR0_0 := aM hr0_0
 have HC0_0 := aM hc0_0
 clear hr0_0 hc0_0
 have HR0_1 := aM hr0_1
 have HC0_1 := aM hc0_1
 clear hr0_1 hc0_1
 have HR0_2 := aM hr0_2
 have HC0_2 := aM hc0_2
 clear hr0_2 hc0_2
 have HR1_0 := aM hr1_0
 have HC1_0 := aM hc1_0
 clear hr1_0 hc1_0
 have HR1_1 := aM hr1_1
 have HC1_1 := aM hc1_1
 clear hr1_1 hc1_1
 have HR1_2 := aM hr1_2
 have HC1_2 := aM hc1_2
 clear hr1_2 hc1_2
 have HB := aM (Below.refl w.heap.size w)
 have H : ((api_Node_by_data_Same_1.f k l0_0 l1_0).bind fun t234 => (if t234 = true then ((api_Way_by_data_Same_2.f k l0_1 l1_1).bind fun t235 => (if t235 = true then ((api_Rel_by_data_Same_3.f k l0_2 l1_2).bind fun t236 => (some t236)) else (some false))) else (some false))) = some r := h
 clear h
 replace H := Option.bind_eq_some_iff.mp H
 obtain ⟨t234, A30, H⟩ := H
 try dsimp only at H
 have A3 := aM A30
 clear A30
 by_cases c4 : t234 = true
 ·subst c4
  have H1 : ((api_Way_by_data_Same_2.f k l0_1 l1_1).bind fun t235 => (if t235 = true then ((api_Rel_by_data_Same_3.f k l0_2 l1_2).bind fun t236 => (some t236)) else (some false))) = some r := by rw [if_pos rfl] at H; exact H
  clear H
  have H := H1
  clear H1
  replace H := Option.bind_eq_some_iff.mp H
  obtain ⟨t235, A50, H⟩ := H
  try dsimp only at H
  have A5 := aM A50
  clear A50
  by_cases c6 : t235 = true
  ·subst c6
   have H1 : ((api_Rel_by_data_Same_3.f k l0_2 l1_2).bind fun t236 => (some t236)) = some r := by rw [if_pos rfl] at H; exact H
   clear H
   have H := H1
   clear H1
   replace H := Option.bind_eq_some_iff.mp H
   obtain ⟨t236, A70, H⟩ := H
   try dsimp only at H
   have A7 := aM A70
   clear A70
   obtain rfl := Option.some.inj H
   go_enter Try.func31, Try.ntmps31
   go_wp2_with (first | ((with_reducible refine gate_dst (N := 2) rfl ?_); refine bx (N := 2) (cs := #[.slice A0_0 l0_0.length c0_0, .slice A0_1 l0_1.length c0_1, .slice A0_2 l0_2.length c0_2]) (t := 26) ?_; intro gb232 hg w8 hbox hb; have n0_ := aM (bS (bl) hb); have n1_ := aM (hbox); have n3_ := aM (gw (w := w) hg); (try clear HB); have HB := n0_; have BK232 := n1_; have GE232 := n3_; clear n0_ n1_ n3_ hb hbox hg) | ((with_reducible refine gate_dst (N := 3) rfl ?_); refine bx (N := 3) (cs := #[.slice A1_0 l1_0.length c1_0, .slice A1_1 l1_1.length c1_1, .slice A1_2 l1_2.length c1_2]) (t := 26) ?_; intro gb233 hg w9 hbox hb; have n0_ := aM (kB (kl BK232) hb); have n1_ := aM (bS (bl) hb); have n2_ := aM (hbox); have n4_ := aM (gw (w := w) hg); have n5_ := aM (nb BK232 hg); have n6_ := aM (nb BK232 hg).symm; (try clear BK232); (try clear HB); have BK232 := n0_; have HB := n1_; have BK233 := n2_; have GE233 := n4_; have NB232_233 := n5_; have NB233_232 := n6_; clear n0_ n1_ n2_ n4_ n5_ n6_ hb hbox hg; have hnb10 := NB232_233.out; have hnc10 := NB233_232.out; obtain ⟨hcz11_0, hcz11_1, hcz11_2, hfz11_0, hfz11_1, hfz11_2⟩ := bc3 BK232; obtain ⟨hcz12_0, hcz12_1, hcz12_2, hfz12_0, hfz12_1, hfz12_2⟩ := bc3 BK233) | ((with_reducible refine gate_callee (f := 60) rfl ?_); refine gL (some 9) Try.func60 #[.slice A0_0 l0_0.length c0_0, .slice A1_0 l1_0.length c1_0, .func (.func 61) #[] #[]] ?_; (with_reducible refine (api_Node_by_data_Same_1.calls k _ _ l0_0 _ _ l1_0 true _ ?side1 ?side2 ?side3 ?side4 A3.out).mono ?_); (case side1 => exact cl HR0_0); (case side2 => exact HC0_0.out); (case side3 => exact cl HR1_0); (case side4 => exact HC1_0.out); rintro e w13 ⟨rfl, hb⟩; refine ⟨_, rfl, ?_⟩; replace BK232 := aM (kB (kl BK232) hb); replace BK233 := aM (kB (kl BK233) hb); replace HB := aM (bS (bl) hb); (try clear hb); obtain ⟨hcz14_0, hcz14_1, hcz14_2, hfz14_0, hfz14_1, hfz14_2⟩ := bc3 BK232; obtain ⟨hcz15_0, hcz15_1, hcz15_2, hfz15_0, hfz15_1, hfz15_2⟩ := bc3 BK233) | (go_at_call 63; (with_reducible refine (api_Way_by_data_Same_2.calls k _ _ l0_1 _ _ l1_1 true _ ?side1 ?side2 ?side3 ?side4 A5.out).mono ?_); (case side1 => exact cl HR0_1); (case side2 => exact HC0_1.out); (case side3 => exact cl HR1_1); (case side4 => exact HC1_1.out); rintro e w16 ⟨rfl, hb⟩; replace BK232 := aM (kB (kl BK232) hb); replace BK233 := aM (kB (kl BK233) hb); replace HB := aM (bS (bl) hb); (try clear hb); obtain ⟨hcz17_0, hcz17_1, hcz17_2, hfz17_0, hfz17_1, hfz17_2⟩ := bc3 BK232; obtain ⟨hcz18_0, hcz18_1, hcz18_2, hfz18_0, hfz18_1, hfz18_2⟩ := bc3 BK233) | (go_at_call 66; (with_reducible refine (api_Rel_by_data_Same_3.calls k _ _ l0_2 _ _ l1_2 t236 _ ?side1 ?side2 ?side3 ?side4 A7.out).mono ?_); (case side1 => exact cl HR0_2); (case side2 => exact HC0_2.out); (case side3 => exact cl HR1_2); (case side4 => exact HC1_2.out); rintro e w19 ⟨rfl, hb⟩; replace BK232 := aM (kB (kl BK232) hb); replace BK233 := aM (kB (kl BK233) hb); replace HB := aM (bS (bl) hb); (try clear hb)))
   go_ret
   exact ⟨by first | rfl | (simp [errW_none, errW_some] <;> rfl) | (simp [*, errW_none, errW_some] <;> rfl), bl⟩
  ·replace c6 := Bool.eq_false_iff.mpr c6
   subst c6
   have H1 : (some false) = some r := by rw [if_neg (show ¬ (false = true) by decide)] at H; exact H
   clear H
   have H := H1
   clear H1
   obtain rfl := Option.some.inj H
   go_enter Try.func31, Try.ntmps31
   go_wp2_with (first | ((with_reducible refine gate_dst (N := 2) rfl ?_); refine bx (N := 2) (cs := #[.slice A0_0 l0_0.length c0_0, .slice A0_1 l0_1.length c0_1, .slice A0_2 l0_2.length c0_2]) (t := 26) ?_; intro gb232 hg w20 hbox hb; have n0_ := aM (bS (bl) hb); have n1_ := aM (hbox); have n3_ := aM (gw (w := w) hg); (try clear HB); have HB := n0_; have BK232 := n1_; have GE232 := n3_; clear n0_ n1_ n3_ hb hbox hg) | ((with_reducible refine gate_dst (N := 3) rfl ?_); refine bx (N := 3) (cs := #[.slice A1_0 l1_0.length c1_0, .slice A1_1 l1_1.length c1_1, .slice A1_2 l1_2.length c1_2]) (t := 26) ?_; intro gb233 hg w21 hbox hb; have n0_ := aM (kB (kl BK232) hb); have n1_ := aM (bS (bl) hb); have n2_ := aM (hbox); have n4_ := aM (gw (w := w) hg); have n5_ := aM (nb BK232 hg); have n6_ := aM (nb BK232 hg).symm; (try clear BK232); (try clear HB); have BK232 := n0_; have HB := n1_; have BK233 := n2_; have GE233 := n4_; have NB232_233 := n5_; have NB233_232 := n6_; clear n0_ n1_ n2_ n4_ n5_ n6_ hb hbox hg; have hnb22 := NB232_233.out; have hnc22 := NB233_232.out; obtain ⟨hcz23_0, hcz23_1, hcz23_2, hfz23_0, hfz23_1, hfz23_2⟩ := bc3 BK232; obtain ⟨hcz24_0, hcz24_1, hcz24_2, hfz24_0, hfz24_1, hfz24_2⟩ := bc3 BK233) | ((with_reducible refine gate_callee (f := 60) rfl ?_); refine gL (some 9) Try.func60 #[.slice A0_0 l0_0.length c0_0, .slice A1_0 l1_0.length c1_0, .func (.func 61) #[] #[]] ?_; (with_reducible refine (api_Node_by_data_Same_1.calls k _ _ l0_0 _ _ l1_0 true _ ?side1 ?side2 ?side3 ?side4 A3.out).mono ?_); (case side1 => exact cl HR0_0); (case side2 => exact HC0_0.out); (case side3 => exact cl HR1_0); (case side4 => exact HC1_0.out); rintro e w25 ⟨rfl, hb⟩; refine ⟨_, rfl, ?_⟩; replace BK232 := aM (kB (kl BK232) hb); replace BK233 := aM (kB (kl BK233) hb); replace HB := aM (bS (bl) hb); (try clear hb); obtain ⟨hcz26_0, hcz26_1, hcz26_2, hfz26_0, hfz26_1, hfz26_2⟩ := bc3 BK232; obtain ⟨hcz27_0, hcz27_1, hcz27_2, hfz27_0, hfz27_1, hfz27_2⟩ := bc3 BK233) | (go_at_call 63; (with_reducible refine (api_Way_by_data_Same_2.calls k _ _ l0_1 _ _ l1_1 false _ ?side1 ?side2 ?side3 ?side4 A5.out).mono ?_); (case side1 => exact cl HR0_1); (case side2 => exact HC0_1.out); (case side3 => exact cl HR1_1); (case side4 => exact HC1_1.out); rintro e w28 ⟨rfl, hb⟩; replace BK232 := aM (kB (kl BK232) hb); replace BK233 := aM (kB (kl BK233) hb); replace HB := aM (bS (bl) hb); (try clear hb)))
   go_ret
   exact ⟨by first | rfl | (simp [errW_none, errW_some] <;> rfl) | (simp [*, errW_none, errW_some] <;> rfl), bl⟩
 ·replace c4 := Bool.eq_false_iff.mpr c4
  subst c4
  have H1 : (some false) = some r := by rw [if_neg (show ¬ (false = true) by decide)] at H; exact H
  clear H
  have H := H1
  clear H1
  obtain rfl := Option.some.inj H
  go_enter Try.func31, Try.ntmps31
  go_wp2_with (first | ((with_reducible refine gate_dst (N := 2) rfl ?_); refine bx (N := 2) (cs := #[.slice A0_0 l0_0.length c0_0, .slice A0_1 l0_1.length c0_1, .slice A0_2 l0_2.length c0_2]) (t := 26) ?_; intro gb232 hg w29 hbox hb; have n0_ := aM (bS (bl) hb); have n1_ := aM (hbox); have n3_ := aM (gw (w := w) hg); (try clear HB); have HB := n0_; have BK232 := n1_; have GE232 := n3_; clear n0_ n1_ n3_ hb hbox hg) | ((with_reducible refine gate_dst (N := 3) rfl ?_); refine bx (N := 3) (cs := #[.slice A1_0 l1_0.length c1_0, .slice A1_1 l1_1.length c1_1, .slice A1_2 l1_2.length c1_2]) (t := 26) ?_; intro gb233 hg w30 hbox hb; have n0_ := aM (kB (kl BK232) hb); have n1_ := aM (bS (bl) hb); have n2_ := aM (hbox); have n4_ := aM (gw (w := w) hg); have n5_ := aM (nb BK232 hg); have n6_ := aM (nb BK232 hg).symm; (try clear BK232); (try clear HB); have BK232 := n0_; have HB := n1_; have BK233 := n2_; have GE233 := n4_; have NB232_233 := n5_; have NB233_232 := n6_; clear n0_ n1_ n2_ n4_ n5_ n6_ hb hbox hg; have hnb31 := NB232_233.out; have hnc31 := NB233_232.out; obtain ⟨hcz32_0, hcz32_1, hcz32_2, hfz32_0, hfz32_1, hfz32_2⟩ := bc3 BK232; obtain ⟨hcz33_0, hcz33_1, hcz33_2, hfz33_0, hfz33_1, hfz33_2⟩ := bc3 BK233) | ((with_reducible refine gate_callee (f := 60) rfl ?_); refine gL (some 9) Try.func60 #[.slice A0_0 l0_0.length c0_0, .slice A1_0 l1_0.length c1_0, .func (.func 61) #[] #[]] ?_; (with_reducible refine (api_Node_by_data_Same_1.calls k _ _ l0_0 _ _ l1_0 false _ ?side1 ?side2 ?side3 ?side4 A3.out).mono ?_); (case side1 => exact cl HR0_0); (case side2 => exact HC0_0.out); (case side3 => exact cl HR1_0); (case side4 => exact HC1_0.out); rintro e w34 ⟨rfl, hb⟩; refine ⟨_, rfl, ?_⟩; replace BK232 := aM (kB (kl BK232) hb); replace BK233 := aM (kB (kl BK233) hb); replace HB := aM (bS (bl) hb); (try clear hb)))
  go_ret
  exact ⟨by first | rfl | (simp [errW_none, errW_some] <;> rfl) | (simp [*, errW_none, errW_some] <;> rfl), bl⟩
end Go.Proofs.Ytgenbepicnbecaa.PAll
