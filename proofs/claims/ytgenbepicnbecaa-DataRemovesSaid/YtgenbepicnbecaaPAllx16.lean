-- out of a driver of this session's prover over the kit's print: Lean checks it
import Derived.Test.YtgenbepicnbecaaPAllx0
namespace Go.Proofs.Ytgenbepicnbecaa.PAll
open Go.Proofs.YtgenbepicnbecaaG Go.Shelf Go.Lib
open Go.RowKit Go.Proofs.YtgenbepicnbecaaW.PrintWords Go.Proofs.YtgenbepicnbecaaW.PrintLast Go.Proofs.YtgenbepicnbecaaW.PrintMore
attribute [local go_sem] max2_int min2_int max_two min_two max_three min_three max_four min_four   -- for this text's walks alone
set_option linter.unusedVariables false
set_option linter.unusedSimpArgs false
def mapmakerref06_inTag.f (a0_0 : ByteArray) (a0_1 : ByteArray) : Option (Bool) := if (a0_0.size : Int) ≥ 1 then (if (a0_0.size : Int) ≤ 64 then (some (decide ((a0_1.size : Int) ≤ 64))) else (some false)) else (some false)
set_option maxHeartbeats 8000000 in
set_option maxRecDepth 100000 in
theorem mapmakerref06_inTag.calls (a0_0 : ByteArray) (a0_1 : ByteArray) (r : Bool) (w : World) (h : mapmakerref06_inTag.f a0_0 a0_1 = some r) :
  Calls Try.prog 90 #[.agg #[.string a0_0, .string a0_1]] w fun e w' => e = .returned (.bool r) ∧ Below w.heap.size w w' := by
 have hu70 := Try.underlying70
 have HB := aM (Below.refl w.heap.size w)
 have H : (if (a0_0.size : Int) ≥ 1 then (if (a0_0.size : Int) ≤ 64 then (some (decide ((a0_1.size : Int) ≤ 64))) else (some false)) else (some false)) = some r := h
 clear h
 by_cases c2 : (a0_0.size : Int) ≥ 1
 ·rw [if_pos c2] at H
  have c2b0 : decide (1 ≤ (a0_0.size : Int)) = true := decide_eq_true c2
  have c2b1 : decide (1 ≤ a0_0.size) = true := decide_eq_true (by omega)
  clear c2
  by_cases c3 : (a0_0.size : Int) ≤ 64
  ·rw [if_pos c3] at H
   have c3b0 : decide ((a0_0.size : Int) ≤ 64) = true := decide_eq_true c3
   have c3b1 : decide (a0_0.size ≤ 64) = true := decide_eq_true (by omega)
   clear c3
   obtain rfl := Option.some.inj H
   go_enter Try.func90, Try.ntmps90
   go_wp2_with (first | ((with_reducible refine gate_dst (N := 1) rfl ?_); (try (refine gate_guard (by rfl) ?_; dsimp only)); refine bx (N := 1) (cs := #[.string a0_0, .string a0_1]) (t := 70) ?_; intro gb237 hg w4 hbox hb; have BK237 := aM (hbox); have GE237 := aM (gw (w := w) hg); replace HB := aM (bS (bl) hb); clear hb hbox hg; obtain ⟨hcz5_0, hcz5_1, hfz5_0, hfz5_1⟩ := bc2 BK237))
   go_ret
   exact ⟨by first | rfl | (simp [errW_none, errW_some] <;> rfl) | (simp [*, errW_none, errW_some] <;> rfl), bl⟩
  ·rw [if_neg c3] at H
   have c3b0 : decide ((a0_0.size : Int) ≤ 64) = false := decide_eq_false c3
   have c3b1 : decide (a0_0.size ≤ 64) = false := decide_eq_false (by omega)
   clear c3
   obtain rfl := Option.some.inj H
   go_enter Try.func90, Try.ntmps90
   go_wp2_with (first | ((with_reducible refine gate_dst (N := 1) rfl ?_); (try (refine gate_guard (by rfl) ?_; dsimp only)); refine bx (N := 1) (cs := #[.string a0_0, .string a0_1]) (t := 70) ?_; intro gb237 hg w6 hbox hb; have BK237 := aM (hbox); have GE237 := aM (gw (w := w) hg); replace HB := aM (bS (bl) hb); clear hb hbox hg; obtain ⟨hcz7_0, hcz7_1, hfz7_0, hfz7_1⟩ := bc2 BK237))
   go_ret
   exact ⟨by first | rfl | (simp [errW_none, errW_some] <;> rfl) | (simp [*, errW_none, errW_some] <;> rfl), bl⟩
 ·rw [if_neg c2] at H
  have c2b0 : decide (1 ≤ (a0_0.size : Int)) = false := decide_eq_false c2
  have c2b1 : decide (1 ≤ a0_0.size) = false := decide_eq_false (by omega)
  clear c2
  obtain rfl := Option.some.inj H
  go_enter Try.func90, Try.ntmps90
  go_wp2_with (first | ((with_reducible refine gate_dst (N := 1) rfl ?_); (try (refine gate_guard (by rfl) ?_; dsimp only)); refine bx (N := 1) (cs := #[.string a0_0, .string a0_1]) (t := 70) ?_; intro gb237 hg w8 hbox hb; have BK237 := aM (hbox); have GE237 := aM (gw (w := w) hg); replace HB := aM (bS (bl) hb); clear hb hbox hg; obtain ⟨hcz9_0, hcz9_1, hfz9_0, hfz9_1⟩ := bc2 BK237))
  go_ret
  exact ⟨by first | rfl | (simp [errW_none, errW_some] <;> rfl) | (simp [*, errW_none, errW_some] <;> rfl), bl⟩
def mapmakerref06_Check.l0 : Nat → List (S70) → Int → Option (Int)
 | 0, _, _ => none
 | k + 1, x0, x3 => if x3 < (x0.length : Int) then (if 0 ≤ x3 then ((mapmakerref06_inTag.f ((rd_T70 x0 x3).f0) ((rd_T70 x0 x3).f1)).bind fun t239 => (if t239 = true then (if x3 > 0 then (if 0 ≤ (wrap64 (x3 - 1)) then (if (wrap64 (x3 - 1)) < (x0.length : Int) then (if ((Op.bytesLess (((rd_T70 x0 (wrap64 (x3 - 1))).f0).toList) (((rd_T70 x0 x3).f0).toList)) = true) then (mapmakerref06_Check.l0 k x0 (wrap64 (x3 + 1))) else (some 6)) else (none)) else (none)) else (mapmakerref06_Check.l0 k x0 (wrap64 (x3 + 1)))) else (some 10))) else (none)) else (some 0)
def mapmakerref06_Check.f (k : Nat) (l0 : List (S70)) : Option (Int) := if (l0.length : Int) > 16 then (some 5) else (mapmakerref06_Check.l0 k l0 0)
theorem mapmakerref06_Check.mono_l : ∀ k, (∀ y0 y1, LeO (mapmakerref06_Check.l0 k y0 y1) (mapmakerref06_Check.l0 (k + 1) y0 y1))
 | 0 => fun _ _ r h => by simp [mapmakerref06_Check.l0] at h
 | k + 1 => by
  have ih0 := mapmakerref06_Check.mono_l k
  ·intro y0 y1
   unfold mapmakerref06_Check.l0
   repeat' first
   | (with_reducible exact ih0 _ _)
   | (with_reducible exact LeO.refl _)
   | (with_reducible exact LeO.none _)
   | (with_reducible refine LeO.ite ?_ ?_)
   | (with_reducible refine LeO.bind ?_ (fun _ => ?_))
   | exact ih0 _ _
   | exact LeO.none _
   | refine LeO.ite ?_ ?_
   | refine LeO.bind ?_ (fun _ => ?_)
theorem mapmakerref06_Check.mono : ∀ a0 k, LeO (mapmakerref06_Check.f k a0) (mapmakerref06_Check.f (k + 1) a0) := by
 intro a0 k
 have ih0 := mapmakerref06_Check.mono_l k
 unfold mapmakerref06_Check.f
 repeat' first
   | (with_reducible exact ih0 _ _)
   | (with_reducible exact LeO.refl _)
   | (with_reducible exact LeO.none _)
   | (with_reducible refine LeO.ite ?_ ?_)
   | (with_reducible refine LeO.bind ?_ (fun _ => ?_))
   | exact ih0 _ _
   | exact LeO.none _
   | refine LeO.ite ?_ ?_
   | refine LeO.bind ?_ (fun _ => ?_)
set_option maxHeartbeats 8000000 in
set_option maxRecDepth 100000 in
theorem mapmakerref06_Check.calls (k : Nat) (A0 : Option Addr) (c0 : Nat) (l0 : List (S70)) (r : Int) (w : World) (hr0 : Kd.C k70 w A0 l0.length l0) (hc0 : l0.length ≤ c0) (h : mapmakerref06_Check.f k l0 = some r) :
  Calls Try.prog 78 #[.slice A0 l0.length c0] w fun e w' => e = .returned (.int .i64 r) ∧ Below w.heap.size w w' := by
 have hu70 := Try.underlying70
 have HR0 := aM hr0
 have HC0 := aM hc0
 clear hr0 hc0
 have HB := aM (Below.refl w.heap.size w)
 have H : (if (l0.length : Int) > 16 then (some 5) else (mapmakerref06_Check.l0 k l0 0)) = some r := h
 clear h
 by_cases c2 : (l0.length : Int) > 16
 ·rw [if_pos c2] at H
  have c2b0 : decide (16 < (l0.length : Int)) = true := decide_eq_true c2
  have c2b1 : decide (16 < l0.length) = true := decide_eq_true (by omega)
  clear c2
  obtain rfl := Option.some.inj H
  go_enter Try.func78, Try.ntmps78
  go_wp2
  repeat (go_quiet (fail); try go_wp2)
  go_ret
  exact ⟨by first | rfl | (simp [errW_none, errW_some] <;> rfl) | (simp [*, errW_none, errW_some] <;> rfl), bl⟩
 ·rw [if_neg c2] at H
  have c2b0 : decide (16 < (l0.length : Int)) = false := decide_eq_false c2
  have c2b1 : decide (16 < l0.length) = false := decide_eq_false (by omega)
  clear c2
  have H' := aM H
  clear H
  go_enter Try.func78, Try.ntmps78
  go_wp2
  repeat (go_quiet (fail); try go_wp2)
  go_loopg [3] k (fun kq v3 w' => ∃ (x3_1 : Int), v3 = .int .i64 x3_1 ∧ Aside0 (mapmakerref06_Check.l0 kq l0 x3_1 = some r) ∧ Aside0 (kq ≤ k) ∧ Aside0 (Below w.heap.size w w'))
  case atStart => exact ⟨(0), (by first | rfl | (simp; done) | (simp [*]; done)), H', ⟨Nat.le_refl _⟩, ⟨bl⟩⟩
  case round =>
   clear H'
   try clear c2
   try clear c2b0
   try clear c2b1
   try clear p2
   obtain ⟨x3_1, rfl, HA, HK1, HB⟩ := hrel
   cases gk with
   | zero => exact absurd HA.out (by simp [mapmakerref06_Check.l0])
   | succ k1 =>
    have H := HA.out
    clear HA
    simp only [mapmakerref06_Check.l0] at H
    by_cases c3 : x3_1 < (l0.length : Int)
    ·rw [if_pos c3] at H
     have c3b0 : decide (x3_1 < (l0.length : Int)) = true := decide_eq_true c3
     clear c3
     by_cases c4 : 0 ≤ x3_1
     ·rw [if_pos c4] at H
      have c4b0 : decide (0 ≤ x3_1) = true := decide_eq_true c4
      clear c4
      replace H := Option.bind_eq_some_iff.mp H
      obtain ⟨t239, A50, H⟩ := H
      try dsimp only at H
      have A5 := aM A50
      clear A50
      by_cases c6 : t239 = true
      ·subst c6
       have H1 : (if x3_1 > 0 then (if 0 ≤ (wrap64 (x3_1 - 1)) then (if (wrap64 (x3_1 - 1)) < (l0.length : Int) then (if ((Op.bytesLess (((rd_T70 l0 (wrap64 (x3_1 - 1))).f0).toList) (((rd_T70 l0 x3_1).f0).toList)) = true) then (mapmakerref06_Check.l0 k1 l0 (wrap64 (x3_1 + 1))) else (some 6)) else (none)) else (none)) else (mapmakerref06_Check.l0 k1 l0 (wrap64 (x3_1 + 1)))) = some r := by rw [if_pos rfl] at H; exact H
       clear H
       have H := H1
       clear H1
       by_cases c7 : x3_1 > 0
       ·rw [if_pos c7] at H
        have c7b0 : decide (0 < x3_1) = true := decide_eq_true c7
        clear c7
        obtain ⟨ji8, hji8⟩ : ∃ j_ : Int, (wrap64 (x3_1 - 1)) = j_ := ⟨_, rfl⟩
        replace H : (if 0 ≤ (ji8) then (if (ji8) < (l0.length : Int) then (if ((Op.bytesLess (((rd_T70 l0 (ji8)).f0).toList) (((rd_T70 l0 x3_1).f0).toList)) = true) then (mapmakerref06_Check.l0 k1 l0 (wrap64 (x3_1 + 1))) else (some 6)) else (none)) else (none)) = some r := by first | (rw [hji8] at H; exact H) | (simp only [hji8] at H ⊢; exact H)
        (try rw [hji8] at A5)
        have hji8w : (IntKind.i64.wrap (x3_1 - 1)) = ji8 := (i64_w _).trans hji8
        by_cases c9 : 0 ≤ (ji8)
        ·rw [if_pos c9] at H
         have c9b0 : decide (0 ≤ (ji8)) = true := decide_eq_true c9
         clear c9
         by_cases c10 : (ji8) < (l0.length : Int)
         ·rw [if_pos c10] at H
          have c10b0 : decide ((ji8) < (l0.length : Int)) = true := decide_eq_true c10
          clear c10
          by_cases c11 : ((Op.bytesLess (((rd_T70 l0 (ji8)).f0).toList) (((rd_T70 l0 x3_1).f0).toList)) = true)
          ·rw [if_pos c11] at H
           have c11b0 : (Op.bytesLess (((rd_T70 l0 (ji8)).f0).toList) (((rd_T70 l0 x3_1).f0).toList)) = true := c11
           clear c11
           have H' := aM H
           clear H
           have p238 : 0 ≤ (x3_1 : Int) := oT
           have q238 : x3_1 < (l0.length : Int) := oT
           obtain ⟨ad238, e238, hx238_0, hx238_1⟩ := at_T70 HR0.out x3_1 p238 q238
           cases e238
           replace hx238_0 := hs HB.out hx238_0
           replace hx238_1 := hs HB.out hx238_1
           replace p238 := eq_true p238
           replace q238 := eq_true q238
           go_wp2_with (first | (go_at_call 90; (with_reducible refine (mapmakerref06_inTag.calls ((rd_T70 l0 x3_1).f0) ((rd_T70 l0 x3_1).f1) true _ A5.out).mono ?_); rintro e w12 ⟨rfl, hb⟩; replace HB := aM (bS (bl) hb); (try clear hb); have p240 : 0 ≤ ((ji8) : Int) := of_decide_eq_true (by first | (with_reducible assumption) | assumption); have q240 : (ji8) < (l0.length : Int) := of_decide_eq_true (by first | (with_reducible assumption) | assumption); obtain ⟨ad240, e240, hx240_0, hx240_1⟩ := at_T70 HR0.out (ji8) p240 q240; obtain rfl : ad238 = ad240 := (by injection e240); replace hx240_0 := (HB.out.cell (World.block_lt_of_cell? w _ hx240_0)).trans hx240_0; replace hx240_1 := (HB.out.cell (World.block_lt_of_cell? w _ hx240_1)).trans hx240_1; replace p240 := eq_true p240; replace q240 := eq_true q240; have p241 : 0 ≤ (x3_1 : Int) := of_decide_eq_true (by first | (with_reducible assumption) | assumption); have q241 : x3_1 < (l0.length : Int) := of_decide_eq_true (by first | (with_reducible assumption) | assumption); obtain ⟨ad241, e241, hx241_0, hx241_1⟩ := at_T70 HR0.out x3_1 p241 q241; obtain rfl : ad238 = ad241 := (by injection e241); replace hx241_0 := (HB.out.cell (World.block_lt_of_cell? w _ hx241_0)).trans hx241_0; replace hx241_1 := (HB.out.cell (World.block_lt_of_cell? w _ hx241_1)).trans hx241_1; replace p241 := eq_true p241; replace q241 := eq_true q241))
           repeat (go_quiet (first | (go_at_call 90; (with_reducible refine (mapmakerref06_inTag.calls ((rd_T70 l0 x3_1).f0) ((rd_T70 l0 x3_1).f1) true _ A5.out).mono ?_); rintro e w12 ⟨rfl, hb⟩; replace HB := aM (bS (bl) hb); (try clear hb); have p240 : 0 ≤ ((ji8) : Int) := of_decide_eq_true (by first | (with_reducible assumption) | assumption); have q240 : (ji8) < (l0.length : Int) := of_decide_eq_true (by first | (with_reducible assumption) | assumption); obtain ⟨ad240, e240, hx240_0, hx240_1⟩ := at_T70 HR0.out (ji8) p240 q240; obtain rfl : ad238 = ad240 := (by injection e240); replace hx240_0 := (HB.out.cell (World.block_lt_of_cell? w _ hx240_0)).trans hx240_0; replace hx240_1 := (HB.out.cell (World.block_lt_of_cell? w _ hx240_1)).trans hx240_1; replace p240 := eq_true p240; replace q240 := eq_true q240; have p241 : 0 ≤ (x3_1 : Int) := of_decide_eq_true (by first | (with_reducible assumption) | assumption); have q241 : x3_1 < (l0.length : Int) := of_decide_eq_true (by first | (with_reducible assumption) | assumption); obtain ⟨ad241, e241, hx241_0, hx241_1⟩ := at_T70 HR0.out x3_1 p241 q241; obtain rfl : ad238 = ad241 := (by injection e241); replace hx241_0 := (HB.out.cell (World.block_lt_of_cell? w _ hx241_0)).trans hx241_0; replace hx241_1 := (HB.out.cell (World.block_lt_of_cell? w _ hx241_1)).trans hx241_1; replace p241 := eq_true p241; replace q241 := eq_true q241)); try go_wp2_with (first | (go_at_call 90; (with_reducible refine (mapmakerref06_inTag.calls ((rd_T70 l0 x3_1).f0) ((rd_T70 l0 x3_1).f1) true _ A5.out).mono ?_); rintro e w12 ⟨rfl, hb⟩; replace HB := aM (bS (bl) hb); (try clear hb); have p240 : 0 ≤ ((ji8) : Int) := of_decide_eq_true (by first | (with_reducible assumption) | assumption); have q240 : (ji8) < (l0.length : Int) := of_decide_eq_true (by first | (with_reducible assumption) | assumption); obtain ⟨ad240, e240, hx240_0, hx240_1⟩ := at_T70 HR0.out (ji8) p240 q240; obtain rfl : ad238 = ad240 := (by injection e240); replace hx240_0 := (HB.out.cell (World.block_lt_of_cell? w _ hx240_0)).trans hx240_0; replace hx240_1 := (HB.out.cell (World.block_lt_of_cell? w _ hx240_1)).trans hx240_1; replace p240 := eq_true p240; replace q240 := eq_true q240; have p241 : 0 ≤ (x3_1 : Int) := of_decide_eq_true (by first | (with_reducible assumption) | assumption); have q241 : x3_1 < (l0.length : Int) := of_decide_eq_true (by first | (with_reducible assumption) | assumption); obtain ⟨ad241, e241, hx241_0, hx241_1⟩ := at_T70 HR0.out x3_1 p241 q241; obtain rfl : ad238 = ad241 := (by injection e241); replace hx241_0 := (HB.out.cell (World.block_lt_of_cell? w _ hx241_0)).trans hx241_0; replace hx241_1 := (HB.out.cell (World.block_lt_of_cell? w _ hx241_1)).trans hx241_1; replace p241 := eq_true p241; replace q241 := eq_true q241)))
           go_roundg k1
           case measure => have := HK1.out; omega
           case rel => exact ⟨(wrap64 (x3_1 + 1)), (by first | rfl | (simp; done) | (simp [*]; done)), H', ⟨by have := HK1.out; omega⟩, ⟨bl⟩⟩
          ·rw [if_neg c11] at H
           have c11b0 : (Op.bytesLess (((rd_T70 l0 (ji8)).f0).toList) (((rd_T70 l0 x3_1).f0).toList)) = false := by simpa using c11
           clear c11
           obtain rfl := Option.some.inj H
           have p238 : 0 ≤ (x3_1 : Int) := oT
           have q238 : x3_1 < (l0.length : Int) := oT
           obtain ⟨ad238, e238, hx238_0, hx238_1⟩ := at_T70 HR0.out x3_1 p238 q238
           cases e238
           replace hx238_0 := hs HB.out hx238_0
           replace hx238_1 := hs HB.out hx238_1
           replace p238 := eq_true p238
           replace q238 := eq_true q238
           go_wp2_with (first | (go_at_call 90; (with_reducible refine (mapmakerref06_inTag.calls ((rd_T70 l0 x3_1).f0) ((rd_T70 l0 x3_1).f1) true _ A5.out).mono ?_); rintro e w13 ⟨rfl, hb⟩; replace HB := aM (bS (bl) hb); (try clear hb); have p240 : 0 ≤ ((ji8) : Int) := of_decide_eq_true (by first | (with_reducible assumption) | assumption); have q240 : (ji8) < (l0.length : Int) := of_decide_eq_true (by first | (with_reducible assumption) | assumption); obtain ⟨ad240, e240, hx240_0, hx240_1⟩ := at_T70 HR0.out (ji8) p240 q240; obtain rfl : ad238 = ad240 := (by injection e240); replace hx240_0 := (HB.out.cell (World.block_lt_of_cell? w _ hx240_0)).trans hx240_0; replace hx240_1 := (HB.out.cell (World.block_lt_of_cell? w _ hx240_1)).trans hx240_1; replace p240 := eq_true p240; replace q240 := eq_true q240; have p241 : 0 ≤ (x3_1 : Int) := of_decide_eq_true (by first | (with_reducible assumption) | assumption); have q241 : x3_1 < (l0.length : Int) := of_decide_eq_true (by first | (with_reducible assumption) | assumption); obtain ⟨ad241, e241, hx241_0, hx241_1⟩ := at_T70 HR0.out x3_1 p241 q241; obtain rfl : ad238 = ad241 := (by injection e241); replace hx241_0 := (HB.out.cell (World.block_lt_of_cell? w _ hx241_0)).trans hx241_0; replace hx241_1 := (HB.out.cell (World.block_lt_of_cell? w _ hx241_1)).trans hx241_1; replace p241 := eq_true p241; replace q241 := eq_true q241))
           repeat (go_quiet (first | (go_at_call 90; (with_reducible refine (mapmakerref06_inTag.calls ((rd_T70 l0 x3_1).f0) ((rd_T70 l0 x3_1).f1) true _ A5.out).mono ?_); rintro e w13 ⟨rfl, hb⟩; replace HB := aM (bS (bl) hb); (try clear hb); have p240 : 0 ≤ ((ji8) : Int) := of_decide_eq_true (by first | (with_reducible assumption) | assumption); have q240 : (ji8) < (l0.length : Int) := of_decide_eq_true (by first | (with_reducible assumption) | assumption); obtain ⟨ad240, e240, hx240_0, hx240_1⟩ := at_T70 HR0.out (ji8) p240 q240; obtain rfl : ad238 = ad240 := (by injection e240); replace hx240_0 := (HB.out.cell (World.block_lt_of_cell? w _ hx240_0)).trans hx240_0; replace hx240_1 := (HB.out.cell (World.block_lt_of_cell? w _ hx240_1)).trans hx240_1; replace p240 := eq_true p240; replace q240 := eq_true q240; have p241 : 0 ≤ (x3_1 : Int) := of_decide_eq_true (by first | (with_reducible assumption) | assumption); have q241 : x3_1 < (l0.length : Int) := of_decide_eq_true (by first | (with_reducible assumption) | assumption); obtain ⟨ad241, e241, hx241_0, hx241_1⟩ := at_T70 HR0.out x3_1 p241 q241; obtain rfl : ad238 = ad241 := (by injection e241); replace hx241_0 := (HB.out.cell (World.block_lt_of_cell? w _ hx241_0)).trans hx241_0; replace hx241_1 := (HB.out.cell (World.block_lt_of_cell? w _ hx241_1)).trans hx241_1; replace p241 := eq_true p241; replace q241 := eq_true q241)); try go_wp2_with (first | (go_at_call 90; (with_reducible refine (mapmakerref06_inTag.calls ((rd_T70 l0 x3_1).f0) ((rd_T70 l0 x3_1).f1) true _ A5.out).mono ?_); rintro e w13 ⟨rfl, hb⟩; replace HB := aM (bS (bl) hb); (try clear hb); have p240 : 0 ≤ ((ji8) : Int) := of_decide_eq_true (by first | (with_reducible assumption) | assumption); have q240 : (ji8) < (l0.length : Int) := of_decide_eq_true (by first | (with_reducible assumption) | assumption); obtain ⟨ad240, e240, hx240_0, hx240_1⟩ := at_T70 HR0.out (ji8) p240 q240; obtain rfl : ad238 = ad240 := (by injection e240); replace hx240_0 := (HB.out.cell (World.block_lt_of_cell? w _ hx240_0)).trans hx240_0; replace hx240_1 := (HB.out.cell (World.block_lt_of_cell? w _ hx240_1)).trans hx240_1; replace p240 := eq_true p240; replace q240 := eq_true q240; have p241 : 0 ≤ (x3_1 : Int) := of_decide_eq_true (by first | (with_reducible assumption) | assumption); have q241 : x3_1 < (l0.length : Int) := of_decide_eq_true (by first | (with_reducible assumption) | assumption); obtain ⟨ad241, e241, hx241_0, hx241_1⟩ := at_T70 HR0.out x3_1 p241 q241; obtain rfl : ad238 = ad241 := (by injection e241); replace hx241_0 := (HB.out.cell (World.block_lt_of_cell? w _ hx241_0)).trans hx241_0; replace hx241_1 := (HB.out.cell (World.block_lt_of_cell? w _ hx241_1)).trans hx241_1; replace p241 := eq_true p241; replace q241 := eq_true q241)))
           go_ret
           exact ⟨by first | rfl | (simp [errW_none, errW_some] <;> rfl) | (simp only [← hji8]; first | rfl | (simp [errW_none, errW_some] <;> rfl)) | (simp [*, errW_none, errW_some] <;> rfl), bl⟩
         ·rw [if_neg c10] at H
          exact absurd H (by simp)
        ·rw [if_neg c9] at H
         exact absurd H (by simp)
       ·rw [if_neg c7] at H
        have c7b0 : decide (0 < x3_1) = false := decide_eq_false c7
        clear c7
        have H' := aM H
        clear H
        have p238 : 0 ≤ (x3_1 : Int) := oT
        have q238 : x3_1 < (l0.length : Int) := oT
        obtain ⟨ad238, e238, hx238_0, hx238_1⟩ := at_T70 HR0.out x3_1 p238 q238
        cases e238
        replace hx238_0 := hs HB.out hx238_0
        replace hx238_1 := hs HB.out hx238_1
        replace p238 := eq_true p238
        replace q238 := eq_true q238
        go_wp2_with (first | (go_at_call 90; (with_reducible refine (mapmakerref06_inTag.calls ((rd_T70 l0 x3_1).f0) ((rd_T70 l0 x3_1).f1) true _ A5.out).mono ?_); rintro e w14 ⟨rfl, hb⟩; replace HB := aM (bS (bl) hb); (try clear hb)))
        repeat (go_quiet (first | (go_at_call 90; (with_reducible refine (mapmakerref06_inTag.calls ((rd_T70 l0 x3_1).f0) ((rd_T70 l0 x3_1).f1) true _ A5.out).mono ?_); rintro e w14 ⟨rfl, hb⟩; replace HB := aM (bS (bl) hb); (try clear hb))); try go_wp2_with (first | (go_at_call 90; (with_reducible refine (mapmakerref06_inTag.calls ((rd_T70 l0 x3_1).f0) ((rd_T70 l0 x3_1).f1) true _ A5.out).mono ?_); rintro e w14 ⟨rfl, hb⟩; replace HB := aM (bS (bl) hb); (try clear hb))))
        go_roundg k1
        case measure => have := HK1.out; omega
        case rel => exact ⟨(wrap64 (x3_1 + 1)), (by first | rfl | (simp; done) | (simp [*]; done)), H', ⟨by have := HK1.out; omega⟩, ⟨bl⟩⟩
      ·replace c6 := Bool.eq_false_iff.mpr c6
       subst c6
       have H1 : (some 10) = some r := by rw [if_neg (show ¬ (false = true) by decide)] at H; exact H
       clear H
       have H := H1
       clear H1
       obtain rfl := Option.some.inj H
       have p238 : 0 ≤ (x3_1 : Int) := oT
       have q238 : x3_1 < (l0.length : Int) := oT
       obtain ⟨ad238, e238, hx238_0, hx238_1⟩ := at_T70 HR0.out x3_1 p238 q238
       cases e238
       replace hx238_0 := hs HB.out hx238_0
       replace hx238_1 := hs HB.out hx238_1
       replace p238 := eq_true p238
       replace q238 := eq_true q238
       go_wp2_with (first | (go_at_call 90; (with_reducible refine (mapmakerref06_inTag.calls ((rd_T70 l0 x3_1).f0) ((rd_T70 l0 x3_1).f1) false _ A5.out).mono ?_); rintro e w15 ⟨rfl, hb⟩; replace HB := aM (bS (bl) hb); (try clear hb)))
       repeat (go_quiet (first | (go_at_call 90; (with_reducible refine (mapmakerref06_inTag.calls ((rd_T70 l0 x3_1).f0) ((rd_T70 l0 x3_1).f1) false _ A5.out).mono ?_); rintro e w15 ⟨rfl, hb⟩; replace HB := aM (bS (bl) hb); (try clear hb))); try go_wp2_with (first | (go_at_call 90; (with_reducible refine (mapmakerref06_inTag.calls ((rd_T70 l0 x3_1).f0) ((rd_T70 l0 x3_1).f1) false _ A5.out).mono ?_); rintro e w15 ⟨rfl, hb⟩; replace HB := aM (bS (bl) hb); (try clear hb))))
       go_ret
       exact ⟨by first | rfl | (simp [errW_none, errW_some] <;> rfl) | (simp [*, errW_none, errW_some] <;> rfl), bl⟩
     ·rw [if_neg c4] at H
      exact absurd H (by simp)
    ·rw [if_neg c3] at H
     have c3b0 : decide (x3_1 < (l0.length : Int)) = false := decide_eq_false c3
     clear c3
     obtain rfl := Option.some.inj H
     go_wp2
     repeat (go_quiet (fail); try go_wp2)
     go_ret
     exact ⟨by first | rfl | (simp [errW_none, errW_some] <;> rfl) | (simp [*, errW_none, errW_some] <;> rfl), bl⟩
end Go.Proofs.Ytgenbepicnbecaa.PAll
