-- out of a driver of this session's prover over the kit's print: Lean checks it
import Derived.Test.YtgenbepicnbecaaPAllx0
namespace Go.Proofs.Ytgenbepicnbecaa.PAll
open Go.Proofs.YtgenbepicnbecaaG Go.Shelf Go.Lib
open Go.RowKit Go.Proofs.YtgenbepicnbecaaW.PrintWords Go.Proofs.YtgenbepicnbecaaW.PrintLast Go.Proofs.YtgenbepicnbecaaW.PrintMore
attribute [local go_sem] max2_int min2_int max_two min_two max_three min_three max_four min_four   -- for this text's walks alone
set_option linter.unusedVariables false
set_option linter.unusedSimpArgs false
def mapmakerref14_id.j0 : Nat → Int → Int → Bool → Option (Int)
 | 0, _, _, _ => none
 | k + 1, x0, x1, x10 => if x10 = true then (some 2) else (if x0 ≤ x1 then (some 6) else (some 0))
def mapmakerref14_id.f (k : Nat) (a0 : Int) (a1 : Int) : Option (Int) := if a0 < 1 then (mapmakerref14_id.j0 k a0 a1 true) else (mapmakerref14_id.j0 k a0 a1 (decide (a0 > 2147483647)))
theorem mapmakerref14_id.mono_l : ∀ k, (∀ y0 y1 y2, LeO (mapmakerref14_id.j0 k y0 y1 y2) (mapmakerref14_id.j0 (k + 1) y0 y1 y2))
 | 0 => fun _ _ _ r h => by simp [mapmakerref14_id.j0] at h
 | k + 1 => by
  have ih0 := mapmakerref14_id.mono_l k
  ·intro y0 y1 y2
   unfold mapmakerref14_id.j0
   repeat' first
   | (with_reducible exact ih0 _ _ _)
   | (with_reducible exact LeO.refl _)
   | (with_reducible exact LeO.none _)
   | (with_reducible refine LeO.ite ?_ ?_)
   | (with_reducible refine LeO.bind ?_ (fun _ => ?_))
   | exact ih0 _ _ _
   | exact LeO.none _
   | refine LeO.ite ?_ ?_
   | refine LeO.bind ?_ (fun _ => ?_)
theorem mapmakerref14_id.mono : ∀ a0 a1 k, LeO (mapmakerref14_id.f k a0 a1) (mapmakerref14_id.f (k + 1) a0 a1) := by
 intro a0 a1 k
 have ih0 := mapmakerref14_id.mono_l k
 unfold mapmakerref14_id.f
 repeat' first
   | (with_reducible exact ih0 _ _ _)
   | (with_reducible exact LeO.refl _)
   | (with_reducible exact LeO.none _)
   | (with_reducible refine LeO.ite ?_ ?_)
   | (with_reducible refine LeO.bind ?_ (fun _ => ?_))
   | exact ih0 _ _ _
   | exact LeO.none _
   | refine LeO.ite ?_ ?_
   | refine LeO.bind ?_ (fun _ => ?_)
set_option maxHeartbeats 8000000 in
set_option maxRecDepth 100000 in
theorem mapmakerref14_id.calls (k : Nat) (a0 : Int) (a1 : Int) (r : Int) (w : World) (h : mapmakerref14_id.f k a0 a1 = some r) :
  Calls Try.prog 41 #[.int .i64 a0, .int .i64 a1] w fun e w' => e = .returned (.int .i64 r) ∧ Drawn0 w w' := by
 have H : (if a0 < 1 then (mapmakerref14_id.j0 k a0 a1 true) else (mapmakerref14_id.j0 k a0 a1 (decide (a0 > 2147483647)))) = some r := h
 clear h
 have HC3 := aM H
 clear H
 go_enter Try.func41, Try.ntmps41
 go_upto_region 1 with (fail)
 go_cut [10] (fun v10 wc => ∃ (kq : Nat) (x10_2 : Bool), v10 = .bool x10_2 ∧ Aside0 (mapmakerref14_id.j0 kq a0 a1 x10_2 = some r) ∧ Aside0 (kq ≤ k) ∧ Drawn0 w wc)
 case first =>
  have H := HC3.out
  clear HC3
  by_cases c4 : a0 < 1
  ·rw [if_pos c4] at H
   have c4b0 : decide (a0 < 1) = true := decide_eq_true c4
   clear c4
   (first | rw [c4b0] | (simp only [i64_w, i32_w]; rw [c4b0]) | skip)
   have H' := aM H
   clear H
   go_wp2
   go_meet
   case rel => exact ⟨_, (true), (by first | rfl | (simp; done) | (simp [*]; done)), H', ⟨by first | omega | exact Nat.le_refl _⟩, by repeat (first | exact Drawn0.refl _ | apply Drawn0.step)⟩
  ·rw [if_neg c4] at H
   have c4b0 : decide (a0 < 1) = false := decide_eq_false c4
   clear c4
   (first | rw [c4b0] | (simp only [i64_w, i32_w]; rw [c4b0]) | skip)
   have H' := aM H
   clear H
   go_wp2
   go_meet
   case rel => exact ⟨_, (decide (a0 > 2147483647)), (by first | rfl | (simp; done) | (simp [*]; done)), H', ⟨by first | omega | exact Nat.le_refl _⟩, by repeat (first | exact Drawn0.refl _ | apply Drawn0.step)⟩
 case rest =>
  clear HC3
  try clear p2
  try clear c4
  try clear c4b0
  obtain ⟨kq, x10_2, rfl, HA, HJ2, ⟨mc2, rfl⟩⟩ := hcut
  cases kq with
  | zero => exact absurd HA.out (by simp [mapmakerref14_id.j0])
  | succ kj2 =>
   have H := HA.out
   clear HA
   simp only [mapmakerref14_id.j0] at H
   by_cases c5 : x10_2 = true
   ·subst c5
    have H1 : (some 2) = some r := by rw [if_pos rfl] at H; exact H
    clear H
    have H := H1
    clear H1
    obtain rfl := Option.some.inj H
    go_wp2
    go_ret
    exact ⟨by first | rfl | (simp; done) | (simp [*]; done), by repeat (first | exact Drawn0.refl _ | apply Drawn0.step)⟩
   ·replace c5 := Bool.eq_false_iff.mpr c5
    subst c5
    have H1 : (if a0 ≤ a1 then (some 6) else (some 0)) = some r := by rw [if_neg (show ¬ (false = true) by decide)] at H; exact H
    clear H
    have H := H1
    clear H1
    by_cases c6 : a0 ≤ a1
    ·rw [if_pos c6] at H
     have c6b0 : decide (a0 ≤ a1) = true := decide_eq_true c6
     clear c6
     obtain rfl := Option.some.inj H
     go_wp2
     go_ret
     exact ⟨by first | rfl | (simp; done) | (simp [*]; done), by repeat (first | exact Drawn0.refl _ | apply Drawn0.step)⟩
    ·rw [if_neg c6] at H
     have c6b0 : decide (a0 ≤ a1) = false := decide_eq_false c6
     clear c6
     obtain rfl := Option.some.inj H
     go_wp2
     go_ret
     exact ⟨by first | rfl | (simp; done) | (simp [*]; done), by repeat (first | exact Drawn0.refl _ | apply Drawn0.step)⟩
def mapmakerref06_inTag.f (a0_0 : ByteArray) (a0_1 : ByteArray) : Option (Bool) := if (a0_0.size : Int) ≥ 1 then (if (a0_0.size : Int) ≤ 64 then (some (decide ((a0_1.size : Int) ≤ 64))) else (some false)) else (some false)
set_option maxHeartbeats 8000000 in
set_option maxRecDepth 100000 in
theorem mapmakerref06_inTag.calls (a0_0 : ByteArray) (a0_1 : ByteArray) (r : Bool) (w : World) (h : mapmakerref06_inTag.f a0_0 a0_1 = some r) :
  Calls Try.prog 90 #[.agg #[.string a0_0, .string a0_1]] w fun e w' => e = .returned (.bool r) ∧ Below w.heap.size w w' := by
 have hu70 := Try.underlying70
 have HB := aM (Below.refl w.heap.size w)
 have H : (if (a0_0.size : Int) ≥ 1 then (if (a0_0.size : Int) ≤ 64 then (some (decide ((a0_1.size : Int) ≤ 64))) else (some false)) else (some false)) = some r := h
 clear h
 by_cases c2 : (a0_0.size : Int) ≥ 1
 ·rw [if_pos c2] at H
  have c2b0 : decide (1 ≤ (a0_0.size : Int)) = true := decide_eq_true c2
  have c2b1 : decide (1 ≤ a0_0.size) = true := decide_eq_true (by omega)
  clear c2
  by_cases c3 : (a0_0.size : Int) ≤ 64
  ·rw [if_pos c3] at H
   have c3b0 : decide ((a0_0.size : Int) ≤ 64) = true := decide_eq_true c3
   have c3b1 : decide (a0_0.size ≤ 64) = true := decide_eq_true (by omega)
   clear c3
   obtain rfl := Option.some.inj H
   go_enter Try.func90, Try.ntmps90
   go_wp2_with (first | ((with_reducible refine gate_dst (N := 1) rfl ?_); (try (refine gate_guard (by rfl) ?_; dsimp only)); refine bx (N := 1) (cs := #[.string a0_0, .string a0_1]) (t := 70) ?_; intro gb237 hg w4 hbox hb; have n0_ := aM (bS (bl) hb); have n1_ := aM (hbox); have n3_ := aM (gw (w := w) hg); clear HB; have HB := n0_; have BK237 := n1_; have GE237 := n3_; clear n0_ n1_ n3_ hb hbox hg; have hcz5_0 : w4.cell? ⟨gb237, 0, none⟩ = some (.string a0_0) := (kC BK237.out 0).trans rfl; have hcz5_1 : w4.cell? ⟨gb237, 1, none⟩ = some (.string a0_1) := (kC BK237.out 1).trans rfl; have hfz5_0 := kF BK237.out 0; have hfz5_1 := kF BK237.out 1))
   go_ret
   exact ⟨by first | rfl | (simp [errW_none, errW_some] <;> rfl) | (simp [*, errW_none, errW_some] <;> rfl), bl⟩
  ·rw [if_neg c3] at H
   have c3b0 : decide ((a0_0.size : Int) ≤ 64) = false := decide_eq_false c3
   have c3b1 : decide (a0_0.size ≤ 64) = false := decide_eq_false (by omega)
   clear c3
   obtain rfl := Option.some.inj H
   go_enter Try.func90, Try.ntmps90
   go_wp2_with (first | ((with_reducible refine gate_dst (N := 1) rfl ?_); (try (refine gate_guard (by rfl) ?_; dsimp only)); refine bx (N := 1) (cs := #[.string a0_0, .string a0_1]) (t := 70) ?_; intro gb237 hg w6 hbox hb; have n0_ := aM (bS (bl) hb); have n1_ := aM (hbox); have n3_ := aM (gw (w := w) hg); clear HB; have HB := n0_; have BK237 := n1_; have GE237 := n3_; clear n0_ n1_ n3_ hb hbox hg; have hcz7_0 : w6.cell? ⟨gb237, 0, none⟩ = some (.string a0_0) := (kC BK237.out 0).trans rfl; have hcz7_1 : w6.cell? ⟨gb237, 1, none⟩ = some (.string a0_1) := (kC BK237.out 1).trans rfl; have hfz7_0 := kF BK237.out 0; have hfz7_1 := kF BK237.out 1))
   go_ret
   exact ⟨by first | rfl | (simp [errW_none, errW_some] <;> rfl) | (simp [*, errW_none, errW_some] <;> rfl), bl⟩
 ·rw [if_neg c2] at H
  have c2b0 : decide (1 ≤ (a0_0.size : Int)) = false := decide_eq_false c2
  have c2b1 : decide (1 ≤ a0_0.size) = false := decide_eq_false (by omega)
  clear c2
  obtain rfl := Option.some.inj H
  go_enter Try.func90, Try.ntmps90
  go_wp2_with (first | ((with_reducible refine gate_dst (N := 1) rfl ?_); (try (refine gate_guard (by rfl) ?_; dsimp only)); refine bx (N := 1) (cs := #[.string a0_0, .string a0_1]) (t := 70) ?_; intro gb237 hg w8 hbox hb; have n0_ := aM (bS (bl) hb); have n1_ := aM (hbox); have n3_ := aM (gw (w := w) hg); clear HB; have HB := n0_; have BK237 := n1_; have GE237 := n3_; clear n0_ n1_ n3_ hb hbox hg; have hcz9_0 : w8.cell? ⟨gb237, 0, none⟩ = some (.string a0_0) := (kC BK237.out 0).trans rfl; have hcz9_1 : w8.cell? ⟨gb237, 1, none⟩ = some (.string a0_1) := (kC BK237.out 1).trans rfl; have hfz9_0 := kF BK237.out 0; have hfz9_1 := kF BK237.out 1))
  go_ret
  exact ⟨by first | rfl | (simp [errW_none, errW_some] <;> rfl) | (simp [*, errW_none, errW_some] <;> rfl), bl⟩
def mapmakerref06_Check.l0 : Nat → List (S70) → Int → Option (Int)
 | 0, _, _ => none
 | k + 1, x0, x3 => if x3 < (x0.length : Int) then (if 0 ≤ x3 then ((mapmakerref06_inTag.f ((rd_T70 x0 x3).f0) ((rd_T70 x0 x3).f1)).bind fun t239 => (if t239 = true then (if x3 > 0 then (if 0 ≤ (wrap64 (x3 - 1)) then (if (wrap64 (x3 - 1)) < (x0.length : Int) then (if ((Op.bytesLess (((rd_T70 x0 (wrap64 (x3 - 1))).f0).toList) (((rd_T70 x0 x3).f0).toList)) = true) then (mapmakerref06_Check.l0 k x0 (wrap64 (x3 + 1))) else (some 6)) else (none)) else (none)) else (mapmakerref06_Check.l0 k x0 (wrap64 (x3 + 1)))) else (some 10))) else (none)) else (some 0)
def mapmakerref06_Check.f (k : Nat) (l0 : List (S70)) : Option (Int) := if (l0.length : Int) > 16 then (some 5) else (mapmakerref06_Check.l0 k l0 0)
theorem mapmakerref06_Check.mono_l : ∀ k, (∀ y0 y1, LeO (mapmakerref06_Check.l0 k y0 y1) (mapmakerref06_Check.l0 (k + 1) y0 y1))
 | 0 => fun _ _ r h => by simp [mapmakerref06_Check.l0] at h
 | k + 1 => by
  have ih0 := mapmakerref06_Check.mono_l k
  ·intro y0 y1
   unfold mapmakerref06_Check.l0
   repeat' first
   | (with_reducible exact ih0 _ _)
   | (with_reducible exact LeO.refl _)
   | (with_reducible exact LeO.none _)
   | (with_reducible refine LeO.ite ?_ ?_)
   | (with_reducible refine LeO.bind ?_ (fun _ => ?_))
   | exact ih0 _ _
   | exact LeO.none _
   | refine LeO.ite ?_ ?_
   | refine LeO.bind ?_ (fun _ => ?_)
theorem mapmakerref06_Check.mono : ∀ a0 k, LeO (mapmakerref06_Check.f k a0) (mapmakerref06_Check.f (k + 1) a0) := by
 intro a0 k
 have ih0 := mapmakerref06_Check.mono_l k
 unfold mapmakerref06_Check.f
 repeat' first
   | (with_reducible exact ih0 _ _)
   | (with_reducible exact LeO.refl _)
   | (with_reducible exact LeO.none _)
   | (with_reducible refine LeO.ite ?_ ?_)
   | (with_reducible refine LeO.bind ?_ (fun _ => ?_))
   | exact ih0 _ _
   | exact LeO.none _
   | refine LeO.ite ?_ ?_
   | refine LeO.bind ?_ (fun _ => ?_)
set_option maxHeartbeats 8000000 in
set_option maxRecDepth 100000 in
theorem mapmakerref06_Check.calls (k : Nat) (A0 : Option Addr) (c0 : Nat) (l0 : List (S70)) (r : Int) (w : World) (hr0 : Kd.C k70 w A0 l0.length l0) (hc0 : l0.length ≤ c0) (h : mapmakerref06_Check.f k l0 = some r) :
  Calls Try.prog 78 #[.slice A0 l0.length c0] w fun e w' => e = .returned (.int .i64 r) ∧ Below w.heap.size w w' := by
 have hu70 := Try.underlying70
 have HR0 := aM hr0
 have HC0 := aM hc0
 clear hr0 hc0
 have HB := aM (Below.refl w.heap.size w)
 have H : (if (l0.length : Int) > 16 then (some 5) else (mapmakerref06_Check.l0 k l0 0)) = some r := h
 clear h
 by_cases c2 : (l0.length : Int) > 16
 ·rw [if_pos c2] at H
  have c2b0 : decide (16 < (l0.length : Int)) = true := decide_eq_true c2
  have c2b1 : decide (16 < l0.length) = true := decide_eq_true (by omega)
  clear c2
  obtain rfl := Option.some.inj H
  go_enter Try.func78, Try.ntmps78
  go_wp2
  repeat (go_quiet (fail); try go_wp2)
  go_ret
  exact ⟨by first | rfl | (simp [errW_none, errW_some] <;> rfl) | (simp [*, errW_none, errW_some] <;> rfl), bl⟩
 ·rw [if_neg c2] at H
  have c2b0 : decide (16 < (l0.length : Int)) = false := decide_eq_false c2
  have c2b1 : decide (16 < l0.length) = false := decide_eq_false (by omega)
  clear c2
  have H' := aM H
  clear H
  go_enter Try.func78, Try.ntmps78
  go_wp2
  repeat (go_quiet (fail); try go_wp2)
  go_loopg [3] k (fun kq v3 w' => ∃ (x3_1 : Int), v3 = .int .i64 x3_1 ∧ Aside0 (mapmakerref06_Check.l0 kq l0 x3_1 = some r) ∧ Aside0 (kq ≤ k) ∧ Aside0 (Below w.heap.size w w'))
  case atStart => exact ⟨(0), (by first | rfl | (simp; done) | (simp [*]; done)), H', ⟨Nat.le_refl _⟩, ⟨bl⟩⟩
  case round =>
   clear H'
   try clear c2
   try clear c2b0
   try clear c2b1
   try clear p2
   obtain ⟨x3_1, rfl, HA, HK1, HB⟩ := hrel
   cases gk with
   | zero => exact absurd HA.out (by simp [mapmakerref06_Check.l0])
   | succ k1 =>
    have H := HA.out
    clear HA
    simp only [mapmakerref06_Check.l0] at H
    by_cases c3 : x3_1 < (l0.length : Int)
    ·rw [if_pos c3] at H
     have c3b0 : decide (x3_1 < (l0.length : Int)) = true := decide_eq_true c3
     clear c3
     by_cases c4 : 0 ≤ x3_1
     ·rw [if_pos c4] at H
      have c4b0 : decide (0 ≤ x3_1) = true := decide_eq_true c4
      clear c4
      replace H := Option.bind_eq_some_iff.mp H
      obtain ⟨t239, A50, H⟩ := H
      try dsimp only at H
      have A5 := aM A50
      clear A50
      by_cases c6 : t239 = true
      ·subst c6
       have H1 : (if x3_1 > 0 then (if 0 ≤ (wrap64 (x3_1 - 1)) then (if (wrap64 (x3_1 - 1)) < (l0.length : Int) then (if ((Op.bytesLess (((rd_T70 l0 (wrap64 (x3_1 - 1))).f0).toList) (((rd_T70 l0 x3_1).f0).toList)) = true) then (mapmakerref06_Check.l0 k1 l0 (wrap64 (x3_1 + 1))) else (some 6)) else (none)) else (none)) else (mapmakerref06_Check.l0 k1 l0 (wrap64 (x3_1 + 1)))) = some r := by rw [if_pos rfl] at H; exact H
       clear H
       have H := H1
       clear H1
       by_cases c7 : x3_1 > 0
       ·rw [if_pos c7] at H
        have c7b0 : decide (0 < x3_1) = true := decide_eq_true c7
        clear c7
        obtain ⟨ji8, hji8⟩ : ∃ j_ : Int, (wrap64 (x3_1 - 1)) = j_ := ⟨_, rfl⟩
        replace H : (if 0 ≤ (ji8) then (if (ji8) < (l0.length : Int) then (if ((Op.bytesLess (((rd_T70 l0 (ji8)).f0).toList) (((rd_T70 l0 x3_1).f0).toList)) = true) then (mapmakerref06_Check.l0 k1 l0 (wrap64 (x3_1 + 1))) else (some 6)) else (none)) else (none)) = some r := by first | (rw [hji8] at H; exact H) | (simp only [hji8] at H ⊢; exact H)
        (try rw [hji8] at A5)
        have hji8w : (IntKind.i64.wrap (x3_1 - 1)) = ji8 := (i64_w _).trans hji8
        by_cases c9 : 0 ≤ (ji8)
        ·rw [if_pos c9] at H
         have c9b0 : decide (0 ≤ (ji8)) = true := decide_eq_true c9
         clear c9
         by_cases c10 : (ji8) < (l0.length : Int)
         ·rw [if_pos c10] at H
          have c10b0 : decide ((ji8) < (l0.length : Int)) = true := decide_eq_true c10
          clear c10
          by_cases c11 : ((Op.bytesLess (((rd_T70 l0 (ji8)).f0).toList) (((rd_T70 l0 x3_1).f0).toList)) = true)
          ·rw [if_pos c11] at H
           have c11b0 : (Op.bytesLess (((rd_T70 l0 (ji8)).f0).toList) (((rd_T70 l0 x3_1).f0).toList)) = true := c11
           clear c11
           have H' := aM H
           clear H
           have p238 : 0 ≤ (x3_1 : Int) := oT
           have q238 : x3_1 < (l0.length : Int) := oT
           obtain ⟨ad238, e238, hx238_0, hx238_1⟩ := at_T70 HR0.out x3_1 p238 q238
           cases e238
           replace hx238_0 := hs HB.out hx238_0
           replace hx238_1 := hs HB.out hx238_1
           replace p238 := eq_true p238
           replace q238 := eq_true q238
           go_wp2_with (first | (go_at_call 90; (with_reducible refine (mapmakerref06_inTag.calls ((rd_T70 l0 x3_1).f0) ((rd_T70 l0 x3_1).f1) true _ A5.out).mono ?_); rintro e w12 ⟨rfl, hb⟩; replace HB := aM (bS (bl) hb); (try clear hb); (try clear hb2); (try clear hk); (try clear hi); have p240 : 0 ≤ ((ji8) : Int) := of_decide_eq_true (by first | (with_reducible assumption) | assumption); have q240 : (ji8) < (l0.length : Int) := of_decide_eq_true (by first | (with_reducible assumption) | assumption); obtain ⟨ad240, e240, hx240_0, hx240_1⟩ := at_T70 HR0.out (ji8) p240 q240; obtain rfl : ad238 = ad240 := (by injection e240); replace hx240_0 := (HB.out.cell (World.block_lt_of_cell? w _ hx240_0)).trans hx240_0; replace hx240_1 := (HB.out.cell (World.block_lt_of_cell? w _ hx240_1)).trans hx240_1; replace p240 := eq_true p240; replace q240 := eq_true q240; have p241 : 0 ≤ (x3_1 : Int) := of_decide_eq_true (by first | (with_reducible assumption) | assumption); have q241 : x3_1 < (l0.length : Int) := of_decide_eq_true (by first | (with_reducible assumption) | assumption); obtain ⟨ad241, e241, hx241_0, hx241_1⟩ := at_T70 HR0.out x3_1 p241 q241; obtain rfl : ad238 = ad241 := (by injection e241); replace hx241_0 := (HB.out.cell (World.block_lt_of_cell? w _ hx241_0)).trans hx241_0; replace hx241_1 := (HB.out.cell (World.block_lt_of_cell? w _ hx241_1)).trans hx241_1; replace p241 := eq_true p241; replace q241 := eq_true q241))
           repeat (go_quiet (first | (go_at_call 90; (with_reducible refine (mapmakerref06_inTag.calls ((rd_T70 l0 x3_1).f0) ((rd_T70 l0 x3_1).f1) true _ A5.out).mono ?_); rintro e w12 ⟨rfl, hb⟩; replace HB := aM (bS (bl) hb); (try clear hb); (try clear hb2); (try clear hk); (try clear hi); have p240 : 0 ≤ ((ji8) : Int) := of_decide_eq_true (by first | (with_reducible assumption) | assumption); have q240 : (ji8) < (l0.length : Int) := of_decide_eq_true (by first | (with_reducible assumption) | assumption); obtain ⟨ad240, e240, hx240_0, hx240_1⟩ := at_T70 HR0.out (ji8) p240 q240; obtain rfl : ad238 = ad240 := (by injection e240); replace hx240_0 := (HB.out.cell (World.block_lt_of_cell? w _ hx240_0)).trans hx240_0; replace hx240_1 := (HB.out.cell (World.block_lt_of_cell? w _ hx240_1)).trans hx240_1; replace p240 := eq_true p240; replace q240 := eq_true q240; have p241 : 0 ≤ (x3_1 : Int) := of_decide_eq_true (by first | (with_reducible assumption) | assumption); have q241 : x3_1 < (l0.length : Int) := of_decide_eq_true (by first | (with_reducible assumption) | assumption); obtain ⟨ad241, e241, hx241_0, hx241_1⟩ := at_T70 HR0.out x3_1 p241 q241; obtain rfl : ad238 = ad241 := (by injection e241); replace hx241_0 := (HB.out.cell (World.block_lt_of_cell? w _ hx241_0)).trans hx241_0; replace hx241_1 := (HB.out.cell (World.block_lt_of_cell? w _ hx241_1)).trans hx241_1; replace p241 := eq_true p241; replace q241 := eq_true q241)); try go_wp2_with (first | (go_at_call 90; (with_reducible refine (mapmakerref06_inTag.calls ((rd_T70 l0 x3_1).f0) ((rd_T70 l0 x3_1).f1) true _ A5.out).mono ?_); rintro e w12 ⟨rfl, hb⟩; replace HB := aM (bS (bl) hb); (try clear hb); (try clear hb2); (try clear hk); (try clear hi); have p240 : 0 ≤ ((ji8) : Int) := of_decide_eq_true (by first | (with_reducible assumption) | assumption); have q240 : (ji8) < (l0.length : Int) := of_decide_eq_true (by first | (with_reducible assumption) | assumption); obtain ⟨ad240, e240, hx240_0, hx240_1⟩ := at_T70 HR0.out (ji8) p240 q240; obtain rfl : ad238 = ad240 := (by injection e240); replace hx240_0 := (HB.out.cell (World.block_lt_of_cell? w _ hx240_0)).trans hx240_0; replace hx240_1 := (HB.out.cell (World.block_lt_of_cell? w _ hx240_1)).trans hx240_1; replace p240 := eq_true p240; replace q240 := eq_true q240; have p241 : 0 ≤ (x3_1 : Int) := of_decide_eq_true (by first | (with_reducible assumption) | assumption); have q241 : x3_1 < (l0.length : Int) := of_decide_eq_true (by first | (with_reducible assumption) | assumption); obtain ⟨ad241, e241, hx241_0, hx241_1⟩ := at_T70 HR0.out x3_1 p241 q241; obtain rfl : ad238 = ad241 := (by injection e241); replace hx241_0 := (HB.out.cell (World.block_lt_of_cell? w _ hx241_0)).trans hx241_0; replace hx241_1 := (HB.out.cell (World.block_lt_of_cell? w _ hx241_1)).trans hx241_1; replace p241 := eq_true p241; replace q241 := eq_true q241)))
           go_roundg k1
           case measure => have := HK1.out; omega
           case rel => exact ⟨(wrap64 (x3_1 + 1)), (by first | rfl | (simp; done) | (simp [*]; done)), H', ⟨by have := HK1.out; omega⟩, ⟨bl⟩⟩
          ·rw [if_neg c11] at H
           have c11b0 : (Op.bytesLess (((rd_T70 l0 (ji8)).f0).toList) (((rd_T70 l0 x3_1).f0).toList)) = false := by simpa using c11
           clear c11
           obtain rfl := Option.some.inj H
           have p238 : 0 ≤ (x3_1 : Int) := oT
           have q238 : x3_1 < (l0.length : Int) := oT
           obtain ⟨ad238, e238, hx238_0, hx238_1⟩ := at_T70 HR0.out x3_1 p238 q238
           cases e238
           replace hx238_0 := hs HB.out hx238_0
           replace hx238_1 := hs HB.out hx238_1
           replace p238 := eq_true p238
           replace q238 := eq_true q238
           go_wp2_with (first | (go_at_call 90; (with_reducible refine (mapmakerref06_inTag.calls ((rd_T70 l0 x3_1).f0) ((rd_T70 l0 x3_1).f1) true _ A5.out).mono ?_); rintro e w13 ⟨rfl, hb⟩; replace HB := aM (bS (bl) hb); (try clear hb); (try clear hb2); (try clear hk); (try clear hi); have p240 : 0 ≤ ((ji8) : Int) := of_decide_eq_true (by first | (with_reducible assumption) | assumption); have q240 : (ji8) < (l0.length : Int) := of_decide_eq_true (by first | (with_reducible assumption) | assumption); obtain ⟨ad240, e240, hx240_0, hx240_1⟩ := at_T70 HR0.out (ji8) p240 q240; obtain rfl : ad238 = ad240 := (by injection e240); replace hx240_0 := (HB.out.cell (World.block_lt_of_cell? w _ hx240_0)).trans hx240_0; replace hx240_1 := (HB.out.cell (World.block_lt_of_cell? w _ hx240_1)).trans hx240_1; replace p240 := eq_true p240; replace q240 := eq_true q240; have p241 : 0 ≤ (x3_1 : Int) := of_decide_eq_true (by first | (with_reducible assumption) | assumption); have q241 : x3_1 < (l0.length : Int) := of_decide_eq_true (by first | (with_reducible assumption) | assumption); obtain ⟨ad241, e241, hx241_0, hx241_1⟩ := at_T70 HR0.out x3_1 p241 q241; obtain rfl : ad238 = ad241 := (by injection e241); replace hx241_0 := (HB.out.cell (World.block_lt_of_cell? w _ hx241_0)).trans hx241_0; replace hx241_1 := (HB.out.cell (World.block_lt_of_cell? w _ hx241_1)).trans hx241_1; replace p241 := eq_true p241; replace q241 := eq_true q241))
           repeat (go_quiet (first | (go_at_call 90; (with_reducible refine (mapmakerref06_inTag.calls ((rd_T70 l0 x3_1).f0) ((rd_T70 l0 x3_1).f1) true _ A5.out).mono ?_); rintro e w13 ⟨rfl, hb⟩; replace HB := aM (bS (bl) hb); (try clear hb); (try clear hb2); (try clear hk); (try clear hi); have p240 : 0 ≤ ((ji8) : Int) := of_decide_eq_true (by first | (with_reducible assumption) | assumption); have q240 : (ji8) < (l0.length : Int) := of_decide_eq_true (by first | (with_reducible assumption) | assumption); obtain ⟨ad240, e240, hx240_0, hx240_1⟩ := at_T70 HR0.out (ji8) p240 q240; obtain rfl : ad238 = ad240 := (by injection e240); replace hx240_0 := (HB.out.cell (World.block_lt_of_cell? w _ hx240_0)).trans hx240_0; replace hx240_1 := (HB.out.cell (World.block_lt_of_cell? w _ hx240_1)).trans hx240_1; replace p240 := eq_true p240; replace q240 := eq_true q240; have p241 : 0 ≤ (x3_1 : Int) := of_decide_eq_true (by first | (with_reducible assumption) | assumption); have q241 : x3_1 < (l0.length : Int) := of_decide_eq_true (by first | (with_reducible assumption) | assumption); obtain ⟨ad241, e241, hx241_0, hx241_1⟩ := at_T70 HR0.out x3_1 p241 q241; obtain rfl : ad238 = ad241 := (by injection e241); replace hx241_0 := (HB.out.cell (World.block_lt_of_cell? w _ hx241_0)).trans hx241_0; replace hx241_1 := (HB.out.cell (World.block_lt_of_cell? w _ hx241_1)).trans hx241_1; replace p241 := eq_true p241; replace q241 := eq_true q241)); try go_wp2_with (first | (go_at_call 90; (with_reducible refine (mapmakerref06_inTag.calls ((rd_T70 l0 x3_1).f0) ((rd_T70 l0 x3_1).f1) true _ A5.out).mono ?_); rintro e w13 ⟨rfl, hb⟩; replace HB := aM (bS (bl) hb); (try clear hb); (try clear hb2); (try clear hk); (try clear hi); have p240 : 0 ≤ ((ji8) : Int) := of_decide_eq_true (by first | (with_reducible assumption) | assumption); have q240 : (ji8) < (l0.length : Int) := of_decide_eq_true (by first | (with_reducible assumption) | assumption); obtain ⟨ad240, e240, hx240_0, hx240_1⟩ := at_T70 HR0.out (ji8) p240 q240; obtain rfl : ad238 = ad240 := (by injection e240); replace hx240_0 := (HB.out.cell (World.block_lt_of_cell? w _ hx240_0)).trans hx240_0; replace hx240_1 := (HB.out.cell (World.block_lt_of_cell? w _ hx240_1)).trans hx240_1; replace p240 := eq_true p240; replace q240 := eq_true q240; have p241 : 0 ≤ (x3_1 : Int) := of_decide_eq_true (by first | (with_reducible assumption) | assumption); have q241 : x3_1 < (l0.length : Int) := of_decide_eq_true (by first | (with_reducible assumption) | assumption); obtain ⟨ad241, e241, hx241_0, hx241_1⟩ := at_T70 HR0.out x3_1 p241 q241; obtain rfl : ad238 = ad241 := (by injection e241); replace hx241_0 := (HB.out.cell (World.block_lt_of_cell? w _ hx241_0)).trans hx241_0; replace hx241_1 := (HB.out.cell (World.block_lt_of_cell? w _ hx241_1)).trans hx241_1; replace p241 := eq_true p241; replace q241 := eq_true q241)))
           go_ret
           exact ⟨by first | rfl | (simp [errW_none, errW_some] <;> rfl) | (simp only [← hji8]; first | rfl | (simp [errW_none, errW_some] <;> rfl)) | (simp [*, errW_none, errW_some] <;> rfl), bl⟩
         ·rw [if_neg c10] at H
          exact absurd H (by simp)
        ·rw [if_neg c9] at H
         exact absurd H (by simp)
       ·rw [if_neg c7] at H
        have c7b0 : decide (0 < x3_1) = false := decide_eq_false c7
        clear c7
        have H' := aM H
        clear H
        have p238 : 0 ≤ (x3_1 : Int) := oT
        have q238 : x3_1 < (l0.length : Int) := oT
        obtain ⟨ad238, e238, hx238_0, hx238_1⟩ := at_T70 HR0.out x3_1 p238 q238
        cases e238
        replace hx238_0 := hs HB.out hx238_0
        replace hx238_1 := hs HB.out hx238_1
        replace p238 := eq_true p238
        replace q238 := eq_true q238
        go_wp2_with (first | (go_at_call 90; (with_reducible refine (mapmakerref06_inTag.calls ((rd_T70 l0 x3_1).f0) ((rd_T70 l0 x3_1).f1) true _ A5.out).mono ?_); rintro e w14 ⟨rfl, hb⟩; replace HB := aM (bS (bl) hb); (try clear hb); (try clear hb2); (try clear hk); (try clear hi)))
        repeat (go_quiet (first | (go_at_call 90; (with_reducible refine (mapmakerref06_inTag.calls ((rd_T70 l0 x3_1).f0) ((rd_T70 l0 x3_1).f1) true _ A5.out).mono ?_); rintro e w14 ⟨rfl, hb⟩; replace HB := aM (bS (bl) hb); (try clear hb); (try clear hb2); (try clear hk); (try clear hi))); try go_wp2_with (first | (go_at_call 90; (with_reducible refine (mapmakerref06_inTag.calls ((rd_T70 l0 x3_1).f0) ((rd_T70 l0 x3_1).f1) true _ A5.out).mono ?_); rintro e w14 ⟨rfl, hb⟩; replace HB := aM (bS (bl) hb); (try clear hb); (try clear hb2); (try clear hk); (try clear hi))))
        go_roundg k1
        case measure => have := HK1.out; omega
        case rel => exact ⟨(wrap64 (x3_1 + 1)), (by first | rfl | (simp; done) | (simp [*]; done)), H', ⟨by have := HK1.out; omega⟩, ⟨bl⟩⟩
      ·replace c6 := Bool.eq_false_iff.mpr c6
       subst c6
       have H1 : (some 10) = some r := by rw [if_neg (show ¬ (false = true) by decide)] at H; exact H
       clear H
       have H := H1
       clear H1
       obtain rfl := Option.some.inj H
       have p238 : 0 ≤ (x3_1 : Int) := oT
       have q238 : x3_1 < (l0.length : Int) := oT
       obtain ⟨ad238, e238, hx238_0, hx238_1⟩ := at_T70 HR0.out x3_1 p238 q238
       cases e238
       replace hx238_0 := hs HB.out hx238_0
       replace hx238_1 := hs HB.out hx238_1
       replace p238 := eq_true p238
       replace q238 := eq_true q238
       go_wp2_with (first | (go_at_call 90; (with_reducible refine (mapmakerref06_inTag.calls ((rd_T70 l0 x3_1).f0) ((rd_T70 l0 x3_1).f1) false _ A5.out).mono ?_); rintro e w15 ⟨rfl, hb⟩; replace HB := aM (bS (bl) hb); (try clear hb); (try clear hb2); (try clear hk); (try clear hi)))
       repeat (go_quiet (first | (go_at_call 90; (with_reducible refine (mapmakerref06_inTag.calls ((rd_T70 l0 x3_1).f0) ((rd_T70 l0 x3_1).f1) false _ A5.out).mono ?_); rintro e w15 ⟨rfl, hb⟩; replace HB := aM (bS (bl) hb); (try clear hb); (try clear hb2); (try clear hk); (try clear hi))); try go_wp2_with (first | (go_at_call 90; (with_reducible refine (mapmakerref06_inTag.calls ((rd_T70 l0 x3_1).f0) ((rd_T70 l0 x3_1).f1) false _ A5.out).mono ?_); rintro e w15 ⟨rfl, hb⟩; replace HB := aM (bS (bl) hb); (try clear hb); (try clear hb2); (try clear hk); (try clear hi))))
       go_ret
       exact ⟨by first | rfl | (simp [errW_none, errW_some] <;> rfl) | (simp [*, errW_none, errW_some] <;> rfl), bl⟩
     ·rw [if_neg c4] at H
      exact absurd H (by simp)
    ·rw [if_neg c3] at H
     have c3b0 : decide (x3_1 < (l0.length : Int)) = false := decide_eq_false c3
     clear c3
     obtain rfl := Option.some.inj H
     go_wp2
     repeat (go_quiet (fail); try go_wp2)
     go_ret
     exact ⟨by first | rfl | (simp [errW_none, errW_some] <;> rfl) | (simp [*, errW_none, errW_some] <;> rfl), bl⟩
mutual
def mapmakerref14_nodes.l0 : Nat → List (S39) → Int → Int → Option (Int)
 | 0, _, _, _ => none
 | k + 1, x0, x3, x4 => if x4 < (x0.length : Int) then (if 0 ≤ x4 then ((mapmakerref14_id.f k ((rd_T39 x0 x4).f0) x3).bind fun t244 => (if t244 = 0 then (if ((rd_T39 x0 x4).f1.f0) < (-1800000000) then (mapmakerref14_nodes.j1 k x0 x4 true ((rd_T39 x0 x4).f0) ((rd_T39 x0 x4).f1.f0) ((rd_T39 x0 x4).f1.f1) ((rd_T39 x0 x4).f2)) else (if ((rd_T39 x0 x4).f1.f0) > 1800000000 then (mapmakerref14_nodes.j1 k x0 x4 true ((rd_T39 x0 x4).f0) ((rd_T39 x0 x4).f1.f0) ((rd_T39 x0 x4).f1.f1) ((rd_T39 x0 x4).f2)) else (if ((rd_T39 x0 x4).f1.f1) < (-900000000) then (mapmakerref14_nodes.j1 k x0 x4 true ((rd_T39 x0 x4).f0) ((rd_T39 x0 x4).f1.f0) ((rd_T39 x0 x4).f1.f1) ((rd_T39 x0 x4).f2)) else (mapmakerref14_nodes.j1 k x0 x4 (decide (((rd_T39 x0 x4).f1.f1) > 900000000)) ((rd_T39 x0 x4).f0) ((rd_T39 x0 x4).f1.f0) ((rd_T39 x0 x4).f1.f1) ((rd_T39 x0 x4).f2))))) else (some t244))) else (none)) else (some 0)
def mapmakerref14_nodes.j1 : Nat → List (S39) → Int → Bool → Int → Int → Int → List (S70) → Option (Int)
 | 0, _, _, _, _, _, _, _ => none
 | k + 1, x0, x4, x46, x244000, x244001, x244002, x244003 => if x46 = true then (some 11) else ((mapmakerref06_Check.f k x244003).bind fun t245 => (if t245 = 0 then (mapmakerref14_nodes.l0 k x0 x244000 (wrap64 (x4 + 1))) else (some t245)))
end
def mapmakerref14_nodes.f (k : Nat) (l0 : List (S39)) : Option (Int) := mapmakerref14_nodes.l0 k l0 0 0
theorem mapmakerref14_nodes.mono_l : ∀ k, (∀ y0 y1 y2, LeO (mapmakerref14_nodes.l0 k y0 y1 y2) (mapmakerref14_nodes.l0 (k + 1) y0 y1 y2)) ∧ (∀ y0 y1 y2 y3 y4 y5 y6, LeO (mapmakerref14_nodes.j1 k y0 y1 y2 y3 y4 y5 y6) (mapmakerref14_nodes.j1 (k + 1) y0 y1 y2 y3 y4 y5 y6))
 | 0 => ⟨fun _ _ _ r h => by simp [mapmakerref14_nodes.l0] at h, fun _ _ _ _ _ _ _ r h => by simp [mapmakerref14_nodes.j1] at h⟩
 | k + 1 => by
  obtain ⟨ih0, ih1⟩ := mapmakerref14_nodes.mono_l k
  refine ⟨?_, ?_⟩
  ·intro y0 y1 y2
   unfold mapmakerref14_nodes.l0
   repeat' first
   | (with_reducible exact ih0 _ _ _)
   | (with_reducible exact ih1 _ _ _ _ _ _ _)
   | (with_reducible exact mapmakerref06_Check.mono _ _)
   | (with_reducible exact mapmakerref14_id.mono _ _ _)
   | (with_reducible exact LeO.refl _)
   | (with_reducible exact LeO.none _)
   | (with_reducible refine LeO.ite ?_ ?_)
   | (with_reducible refine LeO.bind ?_ (fun _ => ?_))
   | exact ih0 _ _ _
   | exact ih1 _ _ _ _ _ _ _
   | exact mapmakerref06_Check.mono _ _
   | exact mapmakerref14_id.mono _ _ _
   | exact LeO.none _
   | refine LeO.ite ?_ ?_
   | refine LeO.bind ?_ (fun _ => ?_)
  ·intro y0 y1 y2 y3 y4 y5 y6
   unfold mapmakerref14_nodes.j1
   repeat' first
   | (with_reducible exact ih0 _ _ _)
   | (with_reducible exact ih1 _ _ _ _ _ _ _)
   | (with_reducible exact mapmakerref06_Check.mono _ _)
   | (with_reducible exact mapmakerref14_id.mono _ _ _)
   | (with_reducible exact LeO.refl _)
   | (with_reducible exact LeO.none _)
   | (with_reducible refine LeO.ite ?_ ?_)
   | (with_reducible refine LeO.bind ?_ (fun _ => ?_))
   | exact ih0 _ _ _
   | exact ih1 _ _ _ _ _ _ _
   | exact mapmakerref06_Check.mono _ _
   | exact mapmakerref14_id.mono _ _ _
   | exact LeO.none _
   | refine LeO.ite ?_ ?_
   | refine LeO.bind ?_ (fun _ => ?_)
theorem mapmakerref14_nodes.mono : ∀ a0 k, LeO (mapmakerref14_nodes.f k a0) (mapmakerref14_nodes.f (k + 1) a0) := by
 intro a0 k
 obtain ⟨ih0, ih1⟩ := mapmakerref14_nodes.mono_l k
 unfold mapmakerref14_nodes.f
 repeat' first
   | (with_reducible exact ih0 _ _ _)
   | (with_reducible exact ih1 _ _ _ _ _ _ _)
   | (with_reducible exact mapmakerref06_Check.mono _ _)
   | (with_reducible exact mapmakerref14_id.mono _ _ _)
   | (with_reducible exact LeO.refl _)
   | (with_reducible exact LeO.none _)
   | (with_reducible refine LeO.ite ?_ ?_)
   | (with_reducible refine LeO.bind ?_ (fun _ => ?_))
   | exact ih0 _ _ _
   | exact ih1 _ _ _ _ _ _ _
   | exact mapmakerref06_Check.mono _ _
   | exact mapmakerref14_id.mono _ _ _
   | exact LeO.none _
   | refine LeO.ite ?_ ?_
   | refine LeO.bind ?_ (fun _ => ?_)
set_option maxHeartbeats 8000000 in
set_option maxRecDepth 100000 in
theorem mapmakerref14_nodes.calls (k : Nat) (A0 : Option Addr) (c0 : Nat) (l0 : List (S39)) (r : Int) (w : World) (hr0 : Kd.C k39 w A0 l0.length l0) (hc0 : l0.length ≤ c0) (h : mapmakerref14_nodes.f k l0 = some r) :
  Calls Try.prog 40 #[.slice A0 l0.length c0] w fun e w' => e = .returned (.int .i64 r) ∧ Below w.heap.size w w' := by
 have hu39 := Try.underlying39
 have HR0 := aM hr0
 have HC0 := aM hc0
 clear hr0 hc0
 have HB := aM (Below.refl w.heap.size w)
 have H : (mapmakerref14_nodes.l0 k l0 0 0) = some r := h
 clear h
 have H' := aM H
 clear H
 go_enter Try.func40, Try.ntmps40
 go_wp2
 go_loopg [3, 4] k (fun kq v3 v4 w' => ∃ (x3_1 : Int) (x4_1 : Int), v3 = .int .i64 x3_1 ∧ v4 = .int .i64 x4_1 ∧ Aside0 (mapmakerref14_nodes.l0 kq l0 x3_1 x4_1 = some r) ∧ Aside0 (kq ≤ k) ∧ Aside0 (Below w.heap.size w w'))
 case atStart => exact ⟨(0), (0), (by first | rfl | (simp; done) | (simp [*]; done)), (by first | rfl | (simp; done) | (simp [*]; done)), H', ⟨Nat.le_refl _⟩, ⟨bl⟩⟩
 case round =>
  clear H'
  obtain ⟨x3_1, x4_1, rfl, rfl, HA, HK1, HB⟩ := hrel
  cases gk with
  | zero => exact absurd HA.out (by simp [mapmakerref14_nodes.l0])
  | succ k1 =>
   have H := HA.out
   clear HA
   simp only [mapmakerref14_nodes.l0] at H
   by_cases c2 : x4_1 < (l0.length : Int)
   ·rw [if_pos c2] at H
    have c2b0 : decide (x4_1 < (l0.length : Int)) = true := decide_eq_true c2
    clear c2
    by_cases c3 : 0 ≤ x4_1
    ·rw [if_pos c3] at H
     have c3b0 : decide (0 ≤ x4_1) = true := decide_eq_true c3
     clear c3
     replace H := Option.bind_eq_some_iff.mp H
     obtain ⟨t244, A40, H⟩ := H
     try dsimp only at H
     have A4 := aM A40
     clear A40
     by_cases c5 : t244 = 0
     ·rw [if_pos c5] at H
      have c5b0 : (t244 == 0) = true := beq_iff_eq.mpr c5
      have c5b1 : (t244 != 0) = false := bne_eq_false_iff_eq.mpr c5
      clear c5
      have HC6 := aM H
      clear H
      have p242 : 0 ≤ (x4_1 : Int) := oT
      have q242 : x4_1 < (l0.length : Int) := oT
      obtain ⟨ad242, A242_3, c242_3, e242, hx242_0, hx242_1, hx242_2, hx242_3, hl242_3, hi242_3⟩ := at_T39 HR0.out x4_1 p242 q242
      cases e242
      replace hx242_0 := hs HB.out hx242_0
      replace hx242_1 := hs HB.out hx242_1
      replace hx242_2 := hs HB.out hx242_2
      replace hx242_3 := hs HB.out hx242_3
      have HR242_3 := aM hi242_3
      have HC242_3 := aM hl242_3
      clear hi242_3 hl242_3
      replace p242 := eq_true p242
      replace q242 := eq_true q242
      go_upto_region 9 with (first | ((with_reducible refine gate_dst (N := 5) rfl ?_); refine bx (N := 5) (cs := #[.int .i64 0, .int .i64 0, .int .i64 0, .slice none 0 0]) (t := 39) ?_; intro gb243 hg w7 hbox hb; have n0_ := aM (bS (bl) hb); have n1_ := aM (hbox); have n3_ := aM (gw (w := w) hg); clear HB; have HB := n0_; have BK243 := n1_; have GE243 := n3_; clear n0_ n1_ n3_ hb hbox hg; have hcz8_0 : w7.cell? ⟨gb243, 0, none⟩ = some (.int .i64 0) := (kC BK243.out 0).trans rfl; have hcz8_1 : w7.cell? ⟨gb243, 1, none⟩ = some (.int .i64 0) := (kC BK243.out 1).trans rfl; have hcz8_2 : w7.cell? ⟨gb243, 2, none⟩ = some (.int .i64 0) := (kC BK243.out 2).trans rfl; have hcz8_3 : w7.cell? ⟨gb243, 3, none⟩ = some (.slice none 0 0) := (kC BK243.out 3).trans rfl; have hfz8_0 := kF BK243.out 0; have hfz8_1 := kF BK243.out 1; have hfz8_2 := kF BK243.out 2; have hfz8_3 := kF BK243.out 3) | ((with_reducible refine gate_callee (f := 41) rfl ?_); refine gL (some 21) Try.func41 #[.int .i64 ((rd_T39 l0 x4_1).f0), .int .i64 x3_1] ?_; (with_reducible refine (mapmakerref14_id.calls k1 ((rd_T39 l0 x4_1).f0) x3_1 t244 _ A4.out).mono ?_); rintro e w' ⟨rfl, ⟨nd, rfl⟩⟩; refine ⟨_, rfl, ?_⟩))
      (try simp only [Act.put, sA, sB, sC])
      go_cut [46] (fun v46 wc => ∃ (kq : Nat) (x46_5 : Bool), v46 = .bool x46_5 ∧ Aside0 (mapmakerref14_nodes.j1 kq l0 x4_1 x46_5 ((rd_T39 l0 x4_1).f0) ((rd_T39 l0 x4_1).f1.f0) ((rd_T39 l0 x4_1).f1.f1) ((rd_T39 l0 x4_1).f2) = some r) ∧ Aside0 (kq ≤ k1) ∧ Aside0 (wc.heap[gb243]? = some (.cells #[.int .i64 ((rd_T39 l0 x4_1).f0), .int .i64 ((rd_T39 l0 x4_1).f1.f0), .int .i64 ((rd_T39 l0 x4_1).f1.f1), (.slice A242_3 ((rd_T39 l0 x4_1).f2).length c242_3)] 39 (0, 0))) ∧ Aside0 (Below w.heap.size w wc))
      case first =>
       have H := HC6.out
       clear HC6
       by_cases c9 : ((rd_T39 l0 x4_1).f1.f0) < (-1800000000)
       ·rw [if_pos c9] at H
        have c9b0 : decide (((rd_T39 l0 x4_1).f1.f0) < (-1800000000)) = true := decide_eq_true c9
        clear c9
        (first | rw [c9b0] | (simp only [i64_w, i32_w]; rw [c9b0]) | skip)
        have H' := aM H
        clear H
        have hcz10_0 : w7.cell? ⟨gb243, 0, none⟩ = some (.int .i64 0) := (kC BK243.out 0).trans rfl
        have hcz10_1 : w7.cell? ⟨gb243, 1, none⟩ = some (.int .i64 0) := (kC BK243.out 1).trans rfl
        have hcz10_2 : w7.cell? ⟨gb243, 2, none⟩ = some (.int .i64 0) := (kC BK243.out 2).trans rfl
        have hcz10_3 : w7.cell? ⟨gb243, 3, none⟩ = some (.slice none 0 0) := (kC BK243.out 3).trans rfl
        have hfz10_0 := kF BK243.out 0
        have hfz10_1 := kF BK243.out 1
        have hfz10_2 := kF BK243.out 2
        have hfz10_3 := kF BK243.out 3
        go_wp2
        go_meet
        case rel => exact ⟨_, (true), (by first | rfl | (simp; done) | (simp [*]; done)), H', ⟨by have := HK1.out; first | omega | exact Nat.le_refl _⟩, ⟨by (with_reducible repeat (first | refine kN ?_ _ | refine kD ?_ | refine kA ?_ _)); refine kP (cs := #[.int .i64 ((rd_T39 l0 x4_1).f0), .int .i64 ((rd_T39 l0 x4_1).f1.f0), .int .i64 ((rd_T39 l0 x4_1).f1.f1), .slice none 0 0]) ?_ 3 _ rfl; (with_reducible repeat (first | refine kN ?_ _ | refine kD ?_ | refine kA ?_ _)); refine kP (cs := #[.int .i64 ((rd_T39 l0 x4_1).f0), .int .i64 ((rd_T39 l0 x4_1).f1.f0), .int .i64 0, .slice none 0 0]) ?_ 2 _ rfl; (with_reducible repeat (first | refine kN ?_ _ | refine kD ?_ | refine kA ?_ _)); refine kP (cs := #[.int .i64 ((rd_T39 l0 x4_1).f0), .int .i64 0, .int .i64 0, .slice none 0 0]) ?_ 1 _ rfl; (with_reducible repeat (first | refine kN ?_ _ | refine kD ?_ | refine kA ?_ _)); refine kP (cs := #[.int .i64 0, .int .i64 0, .int .i64 0, .slice none 0 0]) ?_ 0 _ rfl; (with_reducible repeat (first | refine kN ?_ _ | refine kD ?_ | refine kA ?_ _)); exact BK243.out⟩, ⟨bl⟩⟩
       ·rw [if_neg c9] at H
        have c9b0 : decide (((rd_T39 l0 x4_1).f1.f0) < (-1800000000)) = false := decide_eq_false c9
        clear c9
        (first | rw [c9b0] | (simp only [i64_w, i32_w]; rw [c9b0]) | skip)
        by_cases c11 : ((rd_T39 l0 x4_1).f1.f0) > 1800000000
        ·rw [if_pos c11] at H
         have c11b0 : decide (1800000000 < ((rd_T39 l0 x4_1).f1.f0)) = true := decide_eq_true c11
         clear c11
         have H' := aM H
         clear H
         have hcz12_0 : w7.cell? ⟨gb243, 0, none⟩ = some (.int .i64 0) := (kC BK243.out 0).trans rfl
         have hcz12_1 : w7.cell? ⟨gb243, 1, none⟩ = some (.int .i64 0) := (kC BK243.out 1).trans rfl
         have hcz12_2 : w7.cell? ⟨gb243, 2, none⟩ = some (.int .i64 0) := (kC BK243.out 2).trans rfl
         have hcz12_3 : w7.cell? ⟨gb243, 3, none⟩ = some (.slice none 0 0) := (kC BK243.out 3).trans rfl
         have hfz12_0 := kF BK243.out 0
         have hfz12_1 := kF BK243.out 1
         have hfz12_2 := kF BK243.out 2
         have hfz12_3 := kF BK243.out 3
         go_wp2
         go_meet
         case rel => exact ⟨_, (true), (by first | rfl | (simp; done) | (simp [*]; done)), H', ⟨by have := HK1.out; first | omega | exact Nat.le_refl _⟩, ⟨by (with_reducible repeat (first | refine kN ?_ _ | refine kD ?_ | refine kA ?_ _)); refine kP (cs := #[.int .i64 ((rd_T39 l0 x4_1).f0), .int .i64 ((rd_T39 l0 x4_1).f1.f0), .int .i64 ((rd_T39 l0 x4_1).f1.f1), .slice none 0 0]) ?_ 3 _ rfl; (with_reducible repeat (first | refine kN ?_ _ | refine kD ?_ | refine kA ?_ _)); refine kP (cs := #[.int .i64 ((rd_T39 l0 x4_1).f0), .int .i64 ((rd_T39 l0 x4_1).f1.f0), .int .i64 0, .slice none 0 0]) ?_ 2 _ rfl; (with_reducible repeat (first | refine kN ?_ _ | refine kD ?_ | refine kA ?_ _)); refine kP (cs := #[.int .i64 ((rd_T39 l0 x4_1).f0), .int .i64 0, .int .i64 0, .slice none 0 0]) ?_ 1 _ rfl; (with_reducible repeat (first | refine kN ?_ _ | refine kD ?_ | refine kA ?_ _)); refine kP (cs := #[.int .i64 0, .int .i64 0, .int .i64 0, .slice none 0 0]) ?_ 0 _ rfl; (with_reducible repeat (first | refine kN ?_ _ | refine kD ?_ | refine kA ?_ _)); exact BK243.out⟩, ⟨bl⟩⟩
        ·rw [if_neg c11] at H
         have c11b0 : decide (1800000000 < ((rd_T39 l0 x4_1).f1.f0)) = false := decide_eq_false c11
         clear c11
         by_cases c13 : ((rd_T39 l0 x4_1).f1.f1) < (-900000000)
         ·rw [if_pos c13] at H
          have c13b0 : decide (((rd_T39 l0 x4_1).f1.f1) < (-900000000)) = true := decide_eq_true c13
          clear c13
          have H' := aM H
          clear H
          have hcz14_0 : w7.cell? ⟨gb243, 0, none⟩ = some (.int .i64 0) := (kC BK243.out 0).trans rfl
          have hcz14_1 : w7.cell? ⟨gb243, 1, none⟩ = some (.int .i64 0) := (kC BK243.out 1).trans rfl
          have hcz14_2 : w7.cell? ⟨gb243, 2, none⟩ = some (.int .i64 0) := (kC BK243.out 2).trans rfl
          have hcz14_3 : w7.cell? ⟨gb243, 3, none⟩ = some (.slice none 0 0) := (kC BK243.out 3).trans rfl
          have hfz14_0 := kF BK243.out 0
          have hfz14_1 := kF BK243.out 1
          have hfz14_2 := kF BK243.out 2
          have hfz14_3 := kF BK243.out 3
          go_wp2
          go_meet
          case rel => exact ⟨_, (true), (by first | rfl | (simp; done) | (simp [*]; done)), H', ⟨by have := HK1.out; first | omega | exact Nat.le_refl _⟩, ⟨by (with_reducible repeat (first | refine kN ?_ _ | refine kD ?_ | refine kA ?_ _)); refine kP (cs := #[.int .i64 ((rd_T39 l0 x4_1).f0), .int .i64 ((rd_T39 l0 x4_1).f1.f0), .int .i64 ((rd_T39 l0 x4_1).f1.f1), .slice none 0 0]) ?_ 3 _ rfl; (with_reducible repeat (first | refine kN ?_ _ | refine kD ?_ | refine kA ?_ _)); refine kP (cs := #[.int .i64 ((rd_T39 l0 x4_1).f0), .int .i64 ((rd_T39 l0 x4_1).f1.f0), .int .i64 0, .slice none 0 0]) ?_ 2 _ rfl; (with_reducible repeat (first | refine kN ?_ _ | refine kD ?_ | refine kA ?_ _)); refine kP (cs := #[.int .i64 ((rd_T39 l0 x4_1).f0), .int .i64 0, .int .i64 0, .slice none 0 0]) ?_ 1 _ rfl; (with_reducible repeat (first | refine kN ?_ _ | refine kD ?_ | refine kA ?_ _)); refine kP (cs := #[.int .i64 0, .int .i64 0, .int .i64 0, .slice none 0 0]) ?_ 0 _ rfl; (with_reducible repeat (first | refine kN ?_ _ | refine kD ?_ | refine kA ?_ _)); exact BK243.out⟩, ⟨bl⟩⟩
         ·rw [if_neg c13] at H
          have c13b0 : decide (((rd_T39 l0 x4_1).f1.f1) < (-900000000)) = false := decide_eq_false c13
          clear c13
          have H' := aM H
          clear H
          have hcz15_0 : w7.cell? ⟨gb243, 0, none⟩ = some (.int .i64 0) := (kC BK243.out 0).trans rfl
          have hcz15_1 : w7.cell? ⟨gb243, 1, none⟩ = some (.int .i64 0) := (kC BK243.out 1).trans rfl
          have hcz15_2 : w7.cell? ⟨gb243, 2, none⟩ = some (.int .i64 0) := (kC BK243.out 2).trans rfl
          have hcz15_3 : w7.cell? ⟨gb243, 3, none⟩ = some (.slice none 0 0) := (kC BK243.out 3).trans rfl
          have hfz15_0 := kF BK243.out 0
          have hfz15_1 := kF BK243.out 1
          have hfz15_2 := kF BK243.out 2
          have hfz15_3 := kF BK243.out 3
          go_wp2
          go_meet
          case rel => exact ⟨_, (decide (((rd_T39 l0 x4_1).f1.f1) > 900000000)), (by first | rfl | (simp; done) | (simp [*]; done)), H', ⟨by have := HK1.out; first | omega | exact Nat.le_refl _⟩, ⟨by (with_reducible repeat (first | refine kN ?_ _ | refine kD ?_ | refine kA ?_ _)); refine kP (cs := #[.int .i64 ((rd_T39 l0 x4_1).f0), .int .i64 ((rd_T39 l0 x4_1).f1.f0), .int .i64 ((rd_T39 l0 x4_1).f1.f1), .slice none 0 0]) ?_ 3 _ rfl; (with_reducible repeat (first | refine kN ?_ _ | refine kD ?_ | refine kA ?_ _)); refine kP (cs := #[.int .i64 ((rd_T39 l0 x4_1).f0), .int .i64 ((rd_T39 l0 x4_1).f1.f0), .int .i64 0, .slice none 0 0]) ?_ 2 _ rfl; (with_reducible repeat (first | refine kN ?_ _ | refine kD ?_ | refine kA ?_ _)); refine kP (cs := #[.int .i64 ((rd_T39 l0 x4_1).f0), .int .i64 0, .int .i64 0, .slice none 0 0]) ?_ 1 _ rfl; (with_reducible repeat (first | refine kN ?_ _ | refine kD ?_ | refine kA ?_ _)); refine kP (cs := #[.int .i64 0, .int .i64 0, .int .i64 0, .slice none 0 0]) ?_ 0 _ rfl; (with_reducible repeat (first | refine kN ?_ _ | refine kD ?_ | refine kA ?_ _)); exact BK243.out⟩, ⟨bl⟩⟩
      case rest =>
       clear HC6
       try clear c1
       try clear c2
       try clear c2b0
       try clear p2
       try clear q2
       try clear hx2
       try clear c3
       try clear c3b0
       try clear c4
       try clear c5
       try clear c5b0
       try clear c5b1
       try clear c9
       try clear c9b0
       try clear c11
       try clear c11b0
       try clear c13
       try clear c13b0
       try clear hcz10_0 hcz10_1 hcz10_2 hcz10_3 hfz10_0 hfz10_1 hfz10_2 hfz10_3
       try clear hcz12_0 hcz12_1 hcz12_2 hcz12_3 hfz12_0 hfz12_1 hfz12_2 hfz12_3
       try clear hcz14_0 hcz14_1 hcz14_2 hcz14_3 hfz14_0 hfz14_1 hfz14_2 hfz14_3
       try clear hcz15_0 hcz15_1 hcz15_2 hcz15_3 hfz15_0 hfz15_1 hfz15_2 hfz15_3
       try clear hcz8_0 hcz8_1 hcz8_2 hcz8_3 hfz8_0 hfz8_1 hfz8_2 hfz8_3
       try clear hx242_0
       try clear hx242_1
       try clear hx242_2
       try clear hx242_3
       try clear p242
       try clear q242
       obtain ⟨kq, x46_5, rfl, HA, HJ5, BK243, HB⟩ := hcut
       cases kq with
       | zero => exact absurd HA.out (by simp [mapmakerref14_nodes.j1])
       | succ kj5 =>
        have H := HA.out
        clear HA
        simp only [mapmakerref14_nodes.j1] at H
        by_cases c16 : x46_5 = true
        ·subst c16
         have H1 : (some 11) = some r := by rw [if_pos rfl] at H; exact H
         clear H
         have H := H1
         clear H1
         obtain rfl := Option.some.inj H
         go_wp2
         go_ret
         exact ⟨by first | rfl | (simp [errW_none, errW_some] <;> rfl) | (simp [*, errW_none, errW_some] <;> rfl), bl⟩
        ·replace c16 := Bool.eq_false_iff.mpr c16
         subst c16
         have H1 : ((mapmakerref06_Check.f kj5 ((rd_T39 l0 x4_1).f2)).bind fun t245 => (if t245 = 0 then (mapmakerref14_nodes.l0 kj5 l0 ((rd_T39 l0 x4_1).f0) (wrap64 (x4_1 + 1))) else (some t245))) = some r := by rw [if_neg (show ¬ (false = true) by decide)] at H; exact H
         clear H
         have H := H1
         clear H1
         replace H := Option.bind_eq_some_iff.mp H
         obtain ⟨t245, A170, H⟩ := H
         try dsimp only at H
         have A17 := aM A170
         clear A170
         by_cases c18 : t245 = 0
         ·rw [if_pos c18] at H
          have c18b0 : (t245 == 0) = true := beq_iff_eq.mpr c18
          have c18b1 : (t245 != 0) = false := bne_eq_false_iff_eq.mpr c18
          clear c18
          have H' := aM H
          clear H
          have hcz19_0 : wc.cell? ⟨gb243, 0, none⟩ = some (.int .i64 ((rd_T39 l0 x4_1).f0)) := (kC BK243.out 0).trans rfl
          have hcz19_1 : wc.cell? ⟨gb243, 1, none⟩ = some (.int .i64 ((rd_T39 l0 x4_1).f1.f0)) := (kC BK243.out 1).trans rfl
          have hcz19_2 : wc.cell? ⟨gb243, 2, none⟩ = some (.int .i64 ((rd_T39 l0 x4_1).f1.f1)) := (kC BK243.out 2).trans rfl
          have hcz19_3 : wc.cell? ⟨gb243, 3, none⟩ = some (.slice A242_3 ((rd_T39 l0 x4_1).f2).length c242_3) := (kC BK243.out 3).trans rfl
          have hfz19_0 := kF BK243.out 0
          have hfz19_1 := kF BK243.out 1
          have hfz19_2 := kF BK243.out 2
          have hfz19_3 := kF BK243.out 3
          go_wp2_with (first | ((with_reducible refine gate_callee (f := 78) rfl ?_); refine gL (some 49) Try.func78 #[.slice A242_3 ((rd_T39 l0 x4_1).f2).length c242_3] ?_; (with_reducible refine (mapmakerref06_Check.calls kj5 _ _ ((rd_T39 l0 x4_1).f2) t245 _ ?side1 ?side2 A17.out).mono ?_); (case side1 => repeat (first | exact (Kd.C_below HR242_3.out HB.out) | (with_reducible refine cA ?_ _) | (with_reducible refine cN ?_ _) | (with_reducible refine cD ?_))); (case side2 => exact HC242_3.out); rintro e w20 ⟨rfl, hb⟩; refine ⟨_, rfl, ?_⟩; replace BK243 := aM (kB (kl BK243) hb); replace HB := aM (bS (bl) hb); (try clear hb); (try clear hb2); (try clear hk); (try clear hi); have hcz21_0 : w20.cell? ⟨gb243, 0, none⟩ = some (.int .i64 ((rd_T39 l0 x4_1).f0)) := (kC BK243.out 0).trans rfl; have hcz21_1 : w20.cell? ⟨gb243, 1, none⟩ = some (.int .i64 ((rd_T39 l0 x4_1).f1.f0)) := (kC BK243.out 1).trans rfl; have hcz21_2 : w20.cell? ⟨gb243, 2, none⟩ = some (.int .i64 ((rd_T39 l0 x4_1).f1.f1)) := (kC BK243.out 2).trans rfl; have hcz21_3 : w20.cell? ⟨gb243, 3, none⟩ = some (.slice A242_3 ((rd_T39 l0 x4_1).f2).length c242_3) := (kC BK243.out 3).trans rfl; have hfz21_0 := kF BK243.out 0; have hfz21_1 := kF BK243.out 1; have hfz21_2 := kF BK243.out 2; have hfz21_3 := kF BK243.out 3))
          go_roundg kj5
          case measure => have := HK1.out; have := HJ5.out; omega
          case rel => exact ⟨(((rd_T39 l0 x4_1).f0)), (wrap64 (x4_1 + 1)), (by first | rfl | (simp; done) | (simp [*]; done)), (by first | rfl | (simp; done) | (simp [*]; done)), H', ⟨by have := HK1.out; have := HJ5.out; omega⟩, ⟨bl⟩⟩
         ·rw [if_neg c18] at H
          have c18b0 : (t245 == 0) = false := beq_eq_false_iff_ne.mpr c18
          have c18b1 : (t245 != 0) = true := bne_iff_ne.mpr c18
          obtain rfl := Option.some.inj H
          have hcz22_0 : wc.cell? ⟨gb243, 0, none⟩ = some (.int .i64 ((rd_T39 l0 x4_1).f0)) := (kC BK243.out 0).trans rfl
          have hcz22_1 : wc.cell? ⟨gb243, 1, none⟩ = some (.int .i64 ((rd_T39 l0 x4_1).f1.f0)) := (kC BK243.out 1).trans rfl
          have hcz22_2 : wc.cell? ⟨gb243, 2, none⟩ = some (.int .i64 ((rd_T39 l0 x4_1).f1.f1)) := (kC BK243.out 2).trans rfl
          have hcz22_3 : wc.cell? ⟨gb243, 3, none⟩ = some (.slice A242_3 ((rd_T39 l0 x4_1).f2).length c242_3) := (kC BK243.out 3).trans rfl
          have hfz22_0 := kF BK243.out 0
          have hfz22_1 := kF BK243.out 1
          have hfz22_2 := kF BK243.out 2
          have hfz22_3 := kF BK243.out 3
          go_wp2_with (first | ((with_reducible refine gate_callee (f := 78) rfl ?_); refine gL (some 49) Try.func78 #[.slice A242_3 ((rd_T39 l0 x4_1).f2).length c242_3] ?_; (with_reducible refine (mapmakerref06_Check.calls kj5 _ _ ((rd_T39 l0 x4_1).f2) t245 _ ?side1 ?side2 A17.out).mono ?_); (case side1 => repeat (first | exact (Kd.C_below HR242_3.out HB.out) | (with_reducible refine cA ?_ _) | (with_reducible refine cN ?_ _) | (with_reducible refine cD ?_))); (case side2 => exact HC242_3.out); rintro e w23 ⟨rfl, hb⟩; refine ⟨_, rfl, ?_⟩; replace BK243 := aM (kB (kl BK243) hb); replace HB := aM (bS (bl) hb); (try clear hb); (try clear hb2); (try clear hk); (try clear hi)))
          go_ret
          exact ⟨by first | rfl | (simp [errW_none, errW_some] <;> rfl) | (simp [*, errW_none, errW_some] <;> rfl), bl⟩
     ·rw [if_neg c5] at H
      have c5b0 : (t244 == 0) = false := beq_eq_false_iff_ne.mpr c5
      have c5b1 : (t244 != 0) = true := bne_iff_ne.mpr c5
      obtain rfl := Option.some.inj H
      have p242 : 0 ≤ (x4_1 : Int) := oT
      have q242 : x4_1 < (l0.length : Int) := oT
      obtain ⟨ad242, A242_3, c242_3, e242, hx242_0, hx242_1, hx242_2, hx242_3, hl242_3, hi242_3⟩ := at_T39 HR0.out x4_1 p242 q242
      cases e242
      replace hx242_0 := hs HB.out hx242_0
      replace hx242_1 := hs HB.out hx242_1
      replace hx242_2 := hs HB.out hx242_2
      replace hx242_3 := hs HB.out hx242_3
      have HR242_3 := aM hi242_3
      have HC242_3 := aM hl242_3
      clear hi242_3 hl242_3
      replace p242 := eq_true p242
      replace q242 := eq_true q242
      go_wp2_with (first | ((with_reducible refine gate_dst (N := 5) rfl ?_); refine bx (N := 5) (cs := #[.int .i64 0, .int .i64 0, .int .i64 0, .slice none 0 0]) (t := 39) ?_; intro gb243 hg w24 hbox hb; have n0_ := aM (bS (bl) hb); have n1_ := aM (hbox); have n3_ := aM (gw (w := w) hg); clear HB; have HB := n0_; have BK243 := n1_; have GE243 := n3_; clear n0_ n1_ n3_ hb hbox hg; have hcz25_0 : w24.cell? ⟨gb243, 0, none⟩ = some (.int .i64 0) := (kC BK243.out 0).trans rfl; have hcz25_1 : w24.cell? ⟨gb243, 1, none⟩ = some (.int .i64 0) := (kC BK243.out 1).trans rfl; have hcz25_2 : w24.cell? ⟨gb243, 2, none⟩ = some (.int .i64 0) := (kC BK243.out 2).trans rfl; have hcz25_3 : w24.cell? ⟨gb243, 3, none⟩ = some (.slice none 0 0) := (kC BK243.out 3).trans rfl; have hfz25_0 := kF BK243.out 0; have hfz25_1 := kF BK243.out 1; have hfz25_2 := kF BK243.out 2; have hfz25_3 := kF BK243.out 3) | ((with_reducible refine gate_callee (f := 41) rfl ?_); refine gL (some 21) Try.func41 #[.int .i64 ((rd_T39 l0 x4_1).f0), .int .i64 x3_1] ?_; (with_reducible refine (mapmakerref14_id.calls k1 ((rd_T39 l0 x4_1).f0) x3_1 t244 _ A4.out).mono ?_); rintro e w' ⟨rfl, ⟨nd, rfl⟩⟩; refine ⟨_, rfl, ?_⟩))
      go_ret
      exact ⟨by first | rfl | (simp [errW_none, errW_some] <;> rfl) | (simp [*, errW_none, errW_some] <;> rfl), bl⟩
    ·rw [if_neg c3] at H
     exact absurd H (by simp)
   ·rw [if_neg c2] at H
    have c2b0 : decide (x4_1 < (l0.length : Int)) = false := decide_eq_false c2
    clear c2
    obtain rfl := Option.some.inj H
    go_wp2
    go_ret
    exact ⟨by first | rfl | (simp [errW_none, errW_some] <;> rfl) | (simp [*, errW_none, errW_some] <;> rfl), bl⟩
end Go.Proofs.Ytgenbepicnbecaa.PAll
