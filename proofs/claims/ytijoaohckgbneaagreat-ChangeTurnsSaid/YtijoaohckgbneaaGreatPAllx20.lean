-- out of a driver of this session's prover over the kit's print: Lean checks it
import Derived.Test.YtijoaohckgbneaaGreatPAllx0
import Derived.Test.YtijoaohckgbneaaGreatPAllx1
import Derived.Test.YtijoaohckgbneaaGreatPAllx3
import Derived.Test.YtijoaohckgbneaaGreatPAllx4
namespace Go.Proofs.YtijoaohckgbneaaGreat.PAll
open Go.Proofs.YtijoaohckgbneaaGreatG Go.Shelf Go.Lib
open Go.RowKit Go.Proofs.YtijoaohckgbneaaGreatW.PrintWords Go.Proofs.YtijoaohckgbneaaGreatW.PrintLast Go.Proofs.YtijoaohckgbneaaGreatW.PrintMore
attribute [local go_sem] max2_int min2_int max_two min_two max_three min_three max_four min_four   -- for this text's walks alone
set_option linter.unusedVariables false
set_option linter.unusedSimpArgs false
attribute [local go_sem high] eqA34 eqA112 eqA129
def api_Tag.l0 : Nat → List (S129) → List (S129) → Int → Int → Option (Bool)
 | 0, _, _, _, _ => none
 | k + 1, x0, x1, x12, x13 => if x13 < x12 then (if 0 ≤ x13 then (if x13 < (x0.length : Int) then (if x13 < (x1.length : Int) then (if (!((((rd_T129 x0 x13).f0).toList) == (((rd_T129 x1 x13).f0).toList)) || (!((((rd_T129 x0 x13).f1).toList) == (((rd_T129 x1 x13).f1).toList)))) = true then (some false) else (api_Tag.l0 k x0 x1 x12 (wrap64 (x13 + 1)))) else (none)) else (none)) else (none)) else (some true)
def api_Tag.f (k : Nat) (l0 : List (S129)) (l1 : List (S129)) : Option (Bool) := if (l0.length : Int) = (l1.length : Int) then (api_Tag.l0 k l0 l1 (l0.length : Int) 0) else (some false)
theorem api_Tag.mono_l : ∀ k, (∀ y0 y1 y2 y3, LeO (api_Tag.l0 k y0 y1 y2 y3) (api_Tag.l0 (k + 1) y0 y1 y2 y3))
 | 0 => fun _ _ _ _ r h => by simp [api_Tag.l0] at h
 | k + 1 => by
  have ih0 := api_Tag.mono_l k
  ·intro y0 y1 y2 y3
   unfold api_Tag.l0
   repeat' first
   | (with_reducible exact ih0 _ _ _ _)
   | (with_reducible exact LeO.refl _)
   | (with_reducible exact LeO.none _)
   | (with_reducible refine LeO.ite ?_ ?_)
   | (with_reducible refine LeO.bind ?_ (fun _ => ?_))
   | exact ih0 _ _ _ _
   | exact LeO.none _
   | refine LeO.ite ?_ ?_
   | refine LeO.bind ?_ (fun _ => ?_)
theorem api_Tag.mono : ∀ a0 a1 k, LeO (api_Tag.f k a0 a1) (api_Tag.f (k + 1) a0 a1) := by
 intro a0 a1 k; have ih0 := api_Tag.mono_l k; unfold api_Tag.f
 repeat' first
   | (with_reducible exact ih0 _ _ _ _)
   | (with_reducible exact LeO.refl _)
   | (with_reducible exact LeO.none _)
   | (with_reducible refine LeO.ite ?_ ?_)
   | (with_reducible refine LeO.bind ?_ (fun _ => ?_))
   | exact ih0 _ _ _ _
   | exact LeO.none _
   | refine LeO.ite ?_ ?_
   | refine LeO.bind ?_ (fun _ => ?_)
set_option maxHeartbeats 8000000 in
set_option maxRecDepth 100000 in
theorem api_Tag.calls (k : Nat) (A0 : Option Addr) (c0 : Nat) (l0 : List (S129)) (A1 : Option Addr) (c1 : Nat) (l1 : List (S129)) (r : Bool) (w : World) (hr0 : Kd.C k129 w A0 l0.length l0) (hc0 : l0.length ≤ c0) (hr1 : Kd.C k129 w A1 l1.length l1) (hc1 : l1.length ≤ c1) (h : api_Tag.f k l0 l1 = some r) :
  Calls Tryz.prog 85 #[.slice A0 l0.length c0, .slice A1 l1.length c1] w fun e w' => e = .returned (.bool r) ∧ Drawn0 w w' := by
 have hu129 := Tryz.underlying129; have HR0 := aM hr0; have HC0 := aM hc0; clear hr0 hc0; have HR1 := aM hr1; have HC1 := aM hc1; clear hr1 hc1; have H : (if (l0.length : Int) = (l1.length : Int) then (api_Tag.l0 k l0 l1 (l0.length : Int) 0) else (some false)) = some r := h; clear h
 by_cases c3 : (l0.length : Int) = (l1.length : Int)
 ·rw [if_pos c3] at H; have c3b0 : ((l0.length : Int) == (l1.length : Int)) = true := beq_iff_eq.mpr c3; have c3b1 : ((l0.length : Int) != (l1.length : Int)) = false := bne_eq_false_iff_eq.mpr c3; have c3b2 : (l0.length == l1.length) = true := by first | simpa using c3 | (simp at c3 ⊢; omega)
  clear c3; have H' := aM H; clear H; go_enter Tryz.func85, Tryz.ntmps85
  go_wp2
  repeat (go_quiet (fail); try go_wp2)
  go_loopg [13] k (fun kq v13 w' => ∃ (x13_1 : Int), v13 = .int .i64 x13_1 ∧ Aside0 (api_Tag.l0 kq l0 l1 (l0.length : Int) x13_1 = some r) ∧ Aside0 (kq ≤ k) ∧ Drawn0 w w')
  case atStart => exact ⟨(0), (by first | rfl | (simp; done) | (simp [*]; done)), H', ⟨Nat.le_refl _⟩, by repeat (first | exact Drawn0.refl _ | apply Drawn0.step)⟩
  case round =>
   clear H'; (try clear c1); (try clear c3); (try clear c3b0); (try clear c3b1); (try clear c3b2); obtain ⟨x13_1, rfl, HA, HK1, ⟨m1, rfl⟩⟩ := hrel
   cases gk with
   | zero => exact absurd HA.out (by simp [api_Tag.l0])
   | succ k1 =>
    have H := HA.out; clear HA; simp only [api_Tag.l0] at H
    by_cases c4 : x13_1 < (l0.length : Int)
    ·rw [if_pos c4] at H; have c4b0 : decide (x13_1 < (l0.length : Int)) = true := decide_eq_true c4; clear c4
     by_cases c5 : 0 ≤ x13_1
     ·rw [if_pos c5] at H; have c5b0 : decide (0 ≤ x13_1) = true := decide_eq_true c5; clear c5
      by_cases c6 : x13_1 < (l0.length : Int)
      ·rw [if_pos c6] at H; have c6b0 : decide (x13_1 < (l0.length : Int)) = true := decide_eq_true c6; clear c6
       by_cases c7 : x13_1 < (l1.length : Int)
       ·rw [if_pos c7] at H; have c7b0 : decide (x13_1 < (l1.length : Int)) = true := decide_eq_true c7; clear c7
        by_cases c8 : (!((((rd_T129 l0 x13_1).f0).toList) == (((rd_T129 l1 x13_1).f0).toList)) || (!((((rd_T129 l0 x13_1).f1).toList) == (((rd_T129 l1 x13_1).f1).toList)))) = true
        ·rw [if_pos c8] at H; have c8b0 : (!((((rd_T129 l0 x13_1).f0).toList) == (((rd_T129 l1 x13_1).f0).toList)) || (!((((rd_T129 l0 x13_1).f1).toList) == (((rd_T129 l1 x13_1).f1).toList)))) = true := c8; clear c8; obtain rfl := Option.some.inj H; have p243 : 0 ≤ (x13_1 : Int) := oT; have q243 : x13_1 < (l0.length : Int) := oT; obtain ⟨ad243, e243, hx243_0, hx243_1⟩ := at_T129 HR0.out x13_1 p243 q243; cases e243
         replace p243 := eq_true p243; replace q243 := eq_true q243; have p244 : 0 ≤ (x13_1 : Int) := oT; have q244 : x13_1 < (l1.length : Int) := oT; obtain ⟨ad244, e244, hx244_0, hx244_1⟩ := at_T129 HR1.out x13_1 p244 q244; cases e244
         replace p244 := eq_true p244; replace q244 := eq_true q244
         go_wp2
         repeat (go_quiet (fail); try go_wp2)
         go_ret; exact ⟨by first | rfl | (simp; done) | (simp [*]; done), by repeat (first | exact Drawn0.refl _ | apply Drawn0.step)⟩
        ·rw [if_neg c8] at H; have c8b0 : (!((((rd_T129 l0 x13_1).f0).toList) == (((rd_T129 l1 x13_1).f0).toList)) || (!((((rd_T129 l0 x13_1).f1).toList) == (((rd_T129 l1 x13_1).f1).toList)))) = false := by simpa using c8
         clear c8; have H' := aM H; clear H; have p243 : 0 ≤ (x13_1 : Int) := oT; have q243 : x13_1 < (l0.length : Int) := oT; obtain ⟨ad243, e243, hx243_0, hx243_1⟩ := at_T129 HR0.out x13_1 p243 q243; cases e243
         replace p243 := eq_true p243; replace q243 := eq_true q243; have p244 : 0 ≤ (x13_1 : Int) := oT; have q244 : x13_1 < (l1.length : Int) := oT; obtain ⟨ad244, e244, hx244_0, hx244_1⟩ := at_T129 HR1.out x13_1 p244 q244; cases e244
         replace p244 := eq_true p244; replace q244 := eq_true q244
         go_wp2
         repeat (go_quiet (fail); try go_wp2)
         go_roundg k1
         case measure => have := HK1.out; omega
         case rel => exact ⟨(wrap64 (x13_1 + 1)), (by first | rfl | (simp; done) | (simp [*]; done)), H', ⟨by have := HK1.out; omega⟩, by repeat (first | exact Drawn0.refl _ | apply Drawn0.step)⟩
       ·rw [if_neg c7] at H; exact absurd H (by simp)
      ·rw [if_neg c6] at H; exact absurd H (by simp)
     ·rw [if_neg c5] at H; exact absurd H (by simp)
    ·rw [if_neg c4] at H; have c4b0 : decide (x13_1 < (l0.length : Int)) = false := decide_eq_false c4; clear c4; obtain rfl := Option.some.inj H
     go_wp2
     repeat (go_quiet (fail); try go_wp2)
     go_ret; exact ⟨by first | rfl | (simp; done) | (simp [*]; done), by repeat (first | exact Drawn0.refl _ | apply Drawn0.step)⟩
 ·rw [if_neg c3] at H; have c3b0 : ((l0.length : Int) == (l1.length : Int)) = false := beq_eq_false_iff_ne.mpr c3; have c3b1 : ((l0.length : Int) != (l1.length : Int)) = true := bne_iff_ne.mpr c3; have c3b2 : (l0.length == l1.length) = false := by first | simpa using c3 | (simp at c3 ⊢; omega)
  obtain rfl := Option.some.inj H; go_enter Tryz.func85, Tryz.ntmps85
  go_wp2
  repeat (go_quiet (fail); try go_wp2)
  go_ret; exact ⟨by first | rfl | (simp; done) | (simp [*]; done), by repeat (first | exact Drawn0.refl _ | apply Drawn0.step)⟩
def data_Same_1.f (k : Nat) (a0_0 : Int) (a0_1 : Int) (a0_2 : Int) (l0_3 : List (S129)) (a1_0 : Int) (a1_1 : Int) (a1_2 : Int) (l1_3 : List (S129)) : Option (Bool) := if a0_0 = a1_0 then (if (a0_1 == a1_1 && (a0_2 == a1_2)) = true then ((api_Tag.f k l0_3 l1_3).bind fun t247 => (some t247)) else (some false)) else (some false)
theorem data_Same_1.mono : ∀ a0 a1 a2 a3 a4 a5 a6 a7 k, LeO (data_Same_1.f k a0 a1 a2 a3 a4 a5 a6 a7) (data_Same_1.f (k + 1) a0 a1 a2 a3 a4 a5 a6 a7) := by
 intro a0 a1 a2 a3 a4 a5 a6 a7 k; unfold data_Same_1.f
 repeat' first
   | (with_reducible exact api_Tag.mono _ _ _)
   | (with_reducible exact LeO.refl _)
   | (with_reducible exact LeO.none _)
   | (with_reducible refine LeO.ite ?_ ?_)
   | (with_reducible refine LeO.bind ?_ (fun _ => ?_))
   | exact api_Tag.mono _ _ _
   | exact LeO.none _
   | refine LeO.ite ?_ ?_
   | refine LeO.bind ?_ (fun _ => ?_)
set_option maxHeartbeats 8000000 in
set_option maxRecDepth 100000 in
theorem data_Same_1.calls (k : Nat) (a0_0 : Int) (a0_1 : Int) (a0_2 : Int) (A0_3 : Option Addr) (c0_3 : Nat) (l0_3 : List (S129)) (a1_0 : Int) (a1_1 : Int) (a1_2 : Int) (A1_3 : Option Addr) (c1_3 : Nat) (l1_3 : List (S129)) (r : Bool) (w : World) (hr0_3 : Kd.C k129 w A0_3 l0_3.length l0_3) (hc0_3 : l0_3.length ≤ c0_3) (hr1_3 : Kd.C k129 w A1_3 l1_3.length l1_3) (hc1_3 : l1_3.length ≤ c1_3) (h : data_Same_1.f k a0_0 a0_1 a0_2 l0_3 a1_0 a1_1 a1_2 l1_3 = some r) :
  Calls Tryz.prog 84 #[.agg #[.int .i64 a0_0, .int .i64 a0_1, .int .i64 a0_2, .slice A0_3 l0_3.length c0_3], .agg #[.int .i64 a1_0, .int .i64 a1_1, .int .i64 a1_2, .slice A1_3 l1_3.length c1_3]] w fun e w' => e = .returned (.bool r) ∧ Below w.heap.size w w' := by
 have hu37 := Tryz.underlying37; have hu34 := Tryz.underlying34; have HR0_3 := aM hr0_3; have HC0_3 := aM hc0_3; clear hr0_3 hc0_3; have HR1_3 := aM hr1_3; have HC1_3 := aM hc1_3; clear hr1_3 hc1_3; have HB := aM (Below.refl w.heap.size w); have H : (if a0_0 = a1_0 then (if (a0_1 == a1_1 && (a0_2 == a1_2)) = true then ((api_Tag.f k l0_3 l1_3).bind fun t247 => (some t247)) else (some false)) else (some false)) = some r := h; clear h
 by_cases c3 : a0_0 = a1_0
 ·rw [if_pos c3] at H; have c3b0 : (a0_0 == a1_0) = true := beq_iff_eq.mpr c3; have c3b1 : (a0_0 != a1_0) = false := bne_eq_false_iff_eq.mpr c3; clear c3
  by_cases c4 : (a0_1 == a1_1 && (a0_2 == a1_2)) = true
  ·rw [if_pos c4] at H; have c4b0 : (a0_1 == a1_1 && (a0_2 == a1_2)) = true := c4
   (try (have c4b1 : decide (a0_1 = a1_1 && (a0_2 == a1_2)) = true := by simpa using c4))
   (try (have c4b2 : (a0_1 == a1_1 && (a0_2 == a1_2)) = true := by simpa using c4))
   clear c4; replace H := Option.bind_eq_some_iff.mp H; obtain ⟨t247, A50, H⟩ := H; (try dsimp only at H); have A5 := aM A50; clear A50; obtain rfl := Option.some.inj H; go_enter Tryz.func84, Tryz.ntmps84
   go_wp2_with (first | ((with_reducible refine gate_dst (N := 2) rfl ?_); refine bx (N := 2) (cs := #[.int .i64 a0_0, .int .i64 a0_1, .int .i64 a0_2, .slice A0_3 l0_3.length c0_3]) (t := 37) ?_; intro gb245 hg w6 hbox hb; have BK245 := aM (hbox); have GE245 := aM (gw (w := w) hg); replace HB := aM (bS (bl) hb); clear hb hbox hg) | ((with_reducible refine gate_dst (N := 3) rfl ?_); refine bx (N := 3) (cs := #[.int .i64 a1_0, .int .i64 a1_1, .int .i64 a1_2, .slice A1_3 l1_3.length c1_3]) (t := 37) ?_; intro gb246 hg w7 hbox hb; have BK246 := aM (hbox); have GE246 := aM (gw (w := w) hg); obtain ⟨NB245_246, NB246_245⟩ := n2 BK245 hg; replace BK245 := aM (kB (kl BK245) hb); replace HB := aM (bS (bl) hb); clear hb hbox hg; have hn8 := nn NB245_246; have hz9 := bc4 BK245; have hz10 := bc4 BK246) | (go_at_call 85; (with_reducible refine (api_Tag.calls k _ _ l0_3 _ _ l1_3 t247 _ ?side1 ?side2 ?side3 ?side4 A5.out).mono ?_); (case side1 => exact cl HR0_3); (case side2 => exact HC0_3.out); (case side3 => exact cl HR1_3); (case side4 => exact HC1_3.out); rintro e w' ⟨rfl, ⟨nd, rfl⟩⟩))
   go_ret; exact ⟨by first | rfl | (simp [errW_none, errW_some] <;> rfl) | (simp [*, errW_none, errW_some] <;> rfl), bl⟩
  ·rw [if_neg c4] at H; have c4b0 : (a0_1 == a1_1 && (a0_2 == a1_2)) = false := by simpa using c4
   (try (have c4b1 : decide (a0_1 = a1_1 && (a0_2 == a1_2)) = false := by simpa using c4))
   (try (have c4b2 : (a0_1 == a1_1 && (a0_2 == a1_2)) = false := by simpa using c4))
   (try (have c4b3 : ¬ (a0_1 = a1_1 && (a0_2 == a1_2)) := by simpa using c4))
   clear c4; obtain rfl := Option.some.inj H; go_enter Tryz.func84, Tryz.ntmps84
   go_wp2_with (first | ((with_reducible refine gate_dst (N := 2) rfl ?_); refine bx (N := 2) (cs := #[.int .i64 a0_0, .int .i64 a0_1, .int .i64 a0_2, .slice A0_3 l0_3.length c0_3]) (t := 37) ?_; intro gb245 hg w11 hbox hb; have BK245 := aM (hbox); have GE245 := aM (gw (w := w) hg); replace HB := aM (bS (bl) hb); clear hb hbox hg) | ((with_reducible refine gate_dst (N := 3) rfl ?_); refine bx (N := 3) (cs := #[.int .i64 a1_0, .int .i64 a1_1, .int .i64 a1_2, .slice A1_3 l1_3.length c1_3]) (t := 37) ?_; intro gb246 hg w12 hbox hb; have BK246 := aM (hbox); have GE246 := aM (gw (w := w) hg); obtain ⟨NB245_246, NB246_245⟩ := n2 BK245 hg; replace BK245 := aM (kB (kl BK245) hb); replace HB := aM (bS (bl) hb); clear hb hbox hg; have hn13 := nn NB245_246; have hz14 := bc4 BK245; have hz15 := bc4 BK246))
   go_ret; exact ⟨by first | rfl | (simp [errW_none, errW_some] <;> rfl) | (simp [*, errW_none, errW_some] <;> rfl), bl⟩
 ·rw [if_neg c3] at H; have c3b0 : (a0_0 == a1_0) = false := beq_eq_false_iff_ne.mpr c3; have c3b1 : (a0_0 != a1_0) = true := bne_iff_ne.mpr c3; obtain rfl := Option.some.inj H; go_enter Tryz.func84, Tryz.ntmps84
  go_wp2_with (first | ((with_reducible refine gate_dst (N := 2) rfl ?_); refine bx (N := 2) (cs := #[.int .i64 a0_0, .int .i64 a0_1, .int .i64 a0_2, .slice A0_3 l0_3.length c0_3]) (t := 37) ?_; intro gb245 hg w16 hbox hb; have BK245 := aM (hbox); have GE245 := aM (gw (w := w) hg); replace HB := aM (bS (bl) hb); clear hb hbox hg) | ((with_reducible refine gate_dst (N := 3) rfl ?_); refine bx (N := 3) (cs := #[.int .i64 a1_0, .int .i64 a1_1, .int .i64 a1_2, .slice A1_3 l1_3.length c1_3]) (t := 37) ?_; intro gb246 hg w17 hbox hb; have BK246 := aM (hbox); have GE246 := aM (gw (w := w) hg); obtain ⟨NB245_246, NB246_245⟩ := n2 BK245 hg; replace BK245 := aM (kB (kl BK245) hb); replace HB := aM (bS (bl) hb); clear hb hbox hg; have hn18 := nn NB245_246; have hz19 := bc4 BK245; have hz20 := bc4 BK246))
  go_ret; exact ⟨by first | rfl | (simp [errW_none, errW_some] <;> rfl) | (simp [*, errW_none, errW_some] <;> rfl), bl⟩
-- NOT PRINTED: function 83 (api_Node)
def slices_Equal_int_int.l0 : Nat → List Int → List Int → Int → Int → Option (Bool)
 | 0, _, _, _, _ => none
 | k + 1, x0, x1, x12, x13 => if x13 < x12 then (if 0 ≤ x13 then (if x13 < (x0.length : Int) then (if x13 < (x1.length : Int) then (if (rd x0 x13) = (rd x1 x13) then (slices_Equal_int_int.l0 k x0 x1 x12 (wrap64 (x13 + 1))) else (some false)) else (none)) else (none)) else (none)) else (some true)
def slices_Equal_int_int.f (k : Nat) (l0 : List Int) (l1 : List Int) : Option (Bool) := if (l0.length : Int) = (l1.length : Int) then (slices_Equal_int_int.l0 k l0 l1 (l0.length : Int) 0) else (some false)
theorem slices_Equal_int_int.mono_l : ∀ k, (∀ y0 y1 y2 y3, LeO (slices_Equal_int_int.l0 k y0 y1 y2 y3) (slices_Equal_int_int.l0 (k + 1) y0 y1 y2 y3))
 | 0 => fun _ _ _ _ r h => by simp [slices_Equal_int_int.l0] at h
 | k + 1 => by
  have ih0 := slices_Equal_int_int.mono_l k
  ·intro y0 y1 y2 y3
   unfold slices_Equal_int_int.l0
   repeat' first
   | (with_reducible exact ih0 _ _ _ _)
   | (with_reducible exact LeO.refl _)
   | (with_reducible exact LeO.none _)
   | (with_reducible refine LeO.ite ?_ ?_)
   | (with_reducible refine LeO.bind ?_ (fun _ => ?_))
   | exact ih0 _ _ _ _
   | exact LeO.none _
   | refine LeO.ite ?_ ?_
   | refine LeO.bind ?_ (fun _ => ?_)
theorem slices_Equal_int_int.mono : ∀ a0 a1 k, LeO (slices_Equal_int_int.f k a0 a1) (slices_Equal_int_int.f (k + 1) a0 a1) := by
 intro a0 a1 k; have ih0 := slices_Equal_int_int.mono_l k; unfold slices_Equal_int_int.f
 repeat' first
   | (with_reducible exact ih0 _ _ _ _)
   | (with_reducible exact LeO.refl _)
   | (with_reducible exact LeO.none _)
   | (with_reducible refine LeO.ite ?_ ?_)
   | (with_reducible refine LeO.bind ?_ (fun _ => ?_))
   | exact ih0 _ _ _ _
   | exact LeO.none _
   | refine LeO.ite ?_ ?_
   | refine LeO.bind ?_ (fun _ => ?_)
set_option maxHeartbeats 8000000 in
set_option maxRecDepth 100000 in
theorem slices_Equal_int_int.calls (k : Nat) (A0 : Option Addr) (c0 : Nat) (l0 : List Int) (A1 : Option Addr) (c1 : Nat) (l1 : List Int) (r : Bool) (w : World) (hr0 : Kd.C (Kd.int .i64) w A0 l0.length l0) (hc0 : l0.length ≤ c0) (hr1 : Kd.C (Kd.int .i64) w A1 l1.length l1) (hc1 : l1.length ≤ c1) (h : slices_Equal_int_int.f k l0 l1 = some r) :
  Calls Tryz.prog 88 #[.slice A0 l0.length c0, .slice A1 l1.length c1] w fun e w' => e = .returned (.bool r) ∧ Drawn0 w w' := by
 have HR0 := aM hr0; have HC0 := aM hc0; clear hr0 hc0; have HR1 := aM hr1; have HC1 := aM hc1; clear hr1 hc1; have H : (if (l0.length : Int) = (l1.length : Int) then (slices_Equal_int_int.l0 k l0 l1 (l0.length : Int) 0) else (some false)) = some r := h; clear h
 by_cases c3 : (l0.length : Int) = (l1.length : Int)
 ·rw [if_pos c3] at H; have c3b0 : ((l0.length : Int) == (l1.length : Int)) = true := beq_iff_eq.mpr c3; have c3b1 : ((l0.length : Int) != (l1.length : Int)) = false := bne_eq_false_iff_eq.mpr c3; have c3b2 : (l0.length == l1.length) = true := by first | simpa using c3 | (simp at c3 ⊢; omega)
  clear c3; have H' := aM H; clear H; go_enter Tryz.func88, Tryz.ntmps88
  go_wp2
  repeat (go_quiet (fail); try go_wp2)
  go_loopg [13] k (fun kq v13 w' => ∃ (x13_1 : Int), v13 = .int .i64 x13_1 ∧ Aside0 (slices_Equal_int_int.l0 kq l0 l1 (l0.length : Int) x13_1 = some r) ∧ Aside0 (kq ≤ k) ∧ Drawn0 w w')
  case atStart => exact ⟨(0), (by first | rfl | (simp; done) | (simp [*]; done)), H', ⟨Nat.le_refl _⟩, by repeat (first | exact Drawn0.refl _ | apply Drawn0.step)⟩
  case round =>
   clear H'; (try clear c1); (try clear c3); (try clear c3b0); (try clear c3b1); (try clear c3b2); obtain ⟨x13_1, rfl, HA, HK1, ⟨m1, rfl⟩⟩ := hrel
   cases gk with
   | zero => exact absurd HA.out (by simp [slices_Equal_int_int.l0])
   | succ k1 =>
    have H := HA.out; clear HA; simp only [slices_Equal_int_int.l0] at H
    by_cases c4 : x13_1 < (l0.length : Int)
    ·rw [if_pos c4] at H; have c4b0 : decide (x13_1 < (l0.length : Int)) = true := decide_eq_true c4; clear c4
     by_cases c5 : 0 ≤ x13_1
     ·rw [if_pos c5] at H; have c5b0 : decide (0 ≤ x13_1) = true := decide_eq_true c5; clear c5
      by_cases c6 : x13_1 < (l0.length : Int)
      ·rw [if_pos c6] at H; have c6b0 : decide (x13_1 < (l0.length : Int)) = true := decide_eq_true c6; clear c6
       by_cases c7 : x13_1 < (l1.length : Int)
       ·rw [if_pos c7] at H; have c7b0 : decide (x13_1 < (l1.length : Int)) = true := decide_eq_true c7; clear c7
        by_cases c8 : (rd l0 x13_1) = (rd l1 x13_1)
        ·rw [if_pos c8] at H; have c8b0 : ((rd l0 x13_1) == (rd l1 x13_1)) = true := beq_iff_eq.mpr c8; have c8b1 : ((rd l0 x13_1) != (rd l1 x13_1)) = false := bne_eq_false_iff_eq.mpr c8; clear c8; have H' := aM H; clear H; have p248 : 0 ≤ (x13_1 : Int) := oT; have q248 : x13_1 < (l0.length : Int) := oT; obtain ⟨ad248, e248, hx248_0⟩ := Kd.at_int HR0.out x13_1 p248 q248; cases e248
         replace p248 := eq_true p248; replace q248 := eq_true q248; have p249 : 0 ≤ (x13_1 : Int) := oT; have q249 : x13_1 < (l1.length : Int) := oT; obtain ⟨ad249, e249, hx249_0⟩ := Kd.at_int HR1.out x13_1 p249 q249; cases e249
         replace p249 := eq_true p249; replace q249 := eq_true q249
         go_wp2
         repeat (go_quiet (fail); try go_wp2)
         go_roundg k1
         case measure => have := HK1.out; omega
         case rel => exact ⟨(wrap64 (x13_1 + 1)), (by first | rfl | (simp; done) | (simp [*]; done)), H', ⟨by have := HK1.out; omega⟩, by repeat (first | exact Drawn0.refl _ | apply Drawn0.step)⟩
        ·rw [if_neg c8] at H; have c8b0 : ((rd l0 x13_1) == (rd l1 x13_1)) = false := beq_eq_false_iff_ne.mpr c8; have c8b1 : ((rd l0 x13_1) != (rd l1 x13_1)) = true := bne_iff_ne.mpr c8; obtain rfl := Option.some.inj H; have p248 : 0 ≤ (x13_1 : Int) := oT; have q248 : x13_1 < (l0.length : Int) := oT; obtain ⟨ad248, e248, hx248_0⟩ := Kd.at_int HR0.out x13_1 p248 q248; cases e248
         replace p248 := eq_true p248; replace q248 := eq_true q248; have p249 : 0 ≤ (x13_1 : Int) := oT; have q249 : x13_1 < (l1.length : Int) := oT; obtain ⟨ad249, e249, hx249_0⟩ := Kd.at_int HR1.out x13_1 p249 q249; cases e249
         replace p249 := eq_true p249; replace q249 := eq_true q249
         go_wp2
         repeat (go_quiet (fail); try go_wp2)
         go_ret; exact ⟨by first | rfl | (simp; done) | (simp [*]; done), by repeat (first | exact Drawn0.refl _ | apply Drawn0.step)⟩
       ·rw [if_neg c7] at H; exact absurd H (by simp)
      ·rw [if_neg c6] at H; exact absurd H (by simp)
     ·rw [if_neg c5] at H; exact absurd H (by simp)
    ·rw [if_neg c4] at H; have c4b0 : decide (x13_1 < (l0.length : Int)) = false := decide_eq_false c4; clear c4; obtain rfl := Option.some.inj H
     go_wp2
     repeat (go_quiet (fail); try go_wp2)
     go_ret; exact ⟨by first | rfl | (simp; done) | (simp [*]; done), by repeat (first | exact Drawn0.refl _ | apply Drawn0.step)⟩
 ·rw [if_neg c3] at H; have c3b0 : ((l0.length : Int) == (l1.length : Int)) = false := beq_eq_false_iff_ne.mpr c3; have c3b1 : ((l0.length : Int) != (l1.length : Int)) = true := bne_iff_ne.mpr c3; have c3b2 : (l0.length == l1.length) = false := by first | simpa using c3 | (simp at c3 ⊢; omega)
  obtain rfl := Option.some.inj H; go_enter Tryz.func88, Tryz.ntmps88
  go_wp2
  repeat (go_quiet (fail); try go_wp2)
  go_ret; exact ⟨by first | rfl | (simp; done) | (simp [*]; done), by repeat (first | exact Drawn0.refl _ | apply Drawn0.step)⟩
def data_Same_2.f (k : Nat) (a0_0 : Int) (l0_1 : List Int) (l0_2 : List (S129)) (a1_0 : Int) (l1_1 : List Int) (l1_2 : List (S129)) : Option (Bool) := if a0_0 = a1_0 then ((slices_Equal_int_int.f k l0_1 l1_1).bind fun t252 => (if t252 = true then ((api_Tag.f k l0_2 l1_2).bind fun t253 => (some t253)) else (some false))) else (some false)
theorem data_Same_2.mono : ∀ a0 a1 a2 a3 a4 a5 k, LeO (data_Same_2.f k a0 a1 a2 a3 a4 a5) (data_Same_2.f (k + 1) a0 a1 a2 a3 a4 a5) := by
 intro a0 a1 a2 a3 a4 a5 k; unfold data_Same_2.f
 repeat' first
   | (with_reducible exact api_Tag.mono _ _ _)
   | (with_reducible exact slices_Equal_int_int.mono _ _ _)
   | (with_reducible exact LeO.refl _)
   | (with_reducible exact LeO.none _)
   | (with_reducible refine LeO.ite ?_ ?_)
   | (with_reducible refine LeO.bind ?_ (fun _ => ?_))
   | exact api_Tag.mono _ _ _
   | exact slices_Equal_int_int.mono _ _ _
   | exact LeO.none _
   | refine LeO.ite ?_ ?_
   | refine LeO.bind ?_ (fun _ => ?_)
set_option maxHeartbeats 8000000 in
set_option maxRecDepth 100000 in
theorem data_Same_2.calls (k : Nat) (a0_0 : Int) (A0_1 : Option Addr) (c0_1 : Nat) (l0_1 : List Int) (A0_2 : Option Addr) (c0_2 : Nat) (l0_2 : List (S129)) (a1_0 : Int) (A1_1 : Option Addr) (c1_1 : Nat) (l1_1 : List Int) (A1_2 : Option Addr) (c1_2 : Nat) (l1_2 : List (S129)) (r : Bool) (w : World) (hr0_1 : Kd.C (Kd.int .i64) w A0_1 l0_1.length l0_1) (hc0_1 : l0_1.length ≤ c0_1) (hr0_2 : Kd.C k129 w A0_2 l0_2.length l0_2) (hc0_2 : l0_2.length ≤ c0_2) (hr1_1 : Kd.C (Kd.int .i64) w A1_1 l1_1.length l1_1) (hc1_1 : l1_1.length ≤ c1_1) (hr1_2 : Kd.C k129 w A1_2 l1_2.length l1_2) (hc1_2 : l1_2.length ≤ c1_2) (h : data_Same_2.f k a0_0 l0_1 l0_2 a1_0 l1_1 l1_2 = some r) :
  Calls Tryz.prog 87 #[.agg #[.int .i64 a0_0, .slice A0_1 l0_1.length c0_1, .slice A0_2 l0_2.length c0_2], .agg #[.int .i64 a1_0, .slice A1_1 l1_1.length c1_1, .slice A1_2 l1_2.length c1_2]] w fun e w' => e = .returned (.bool r) ∧ Below w.heap.size w w' := by
 have hu40 := Tryz.underlying40; have HR0_1 := aM hr0_1; have HC0_1 := aM hc0_1; clear hr0_1 hc0_1; have HR0_2 := aM hr0_2; have HC0_2 := aM hc0_2; clear hr0_2 hc0_2; have HR1_1 := aM hr1_1; have HC1_1 := aM hc1_1; clear hr1_1 hc1_1; have HR1_2 := aM hr1_2; have HC1_2 := aM hc1_2; clear hr1_2 hc1_2; have HB := aM (Below.refl w.heap.size w); have H : (if a0_0 = a1_0 then ((slices_Equal_int_int.f k l0_1 l1_1).bind fun t252 => (if t252 = true then ((api_Tag.f k l0_2 l1_2).bind fun t253 => (some t253)) else (some false))) else (some false)) = some r := h; clear h
 by_cases c3 : a0_0 = a1_0
 ·rw [if_pos c3] at H; have c3b0 : (a0_0 == a1_0) = true := beq_iff_eq.mpr c3; have c3b1 : (a0_0 != a1_0) = false := bne_eq_false_iff_eq.mpr c3; clear c3; replace H := Option.bind_eq_some_iff.mp H; obtain ⟨t252, A40, H⟩ := H; (try dsimp only at H); have A4 := aM A40; clear A40
  by_cases c5 : t252 = true
  ·subst c5; have H1 : ((api_Tag.f k l0_2 l1_2).bind fun t253 => (some t253)) = some r := by rw [if_pos rfl] at H; exact H
   clear H; have H := H1; clear H1; replace H := Option.bind_eq_some_iff.mp H; obtain ⟨t253, A60, H⟩ := H; (try dsimp only at H); have A6 := aM A60; clear A60; obtain rfl := Option.some.inj H; go_enter Tryz.func87, Tryz.ntmps87
   go_wp2_with (first | ((with_reducible refine gate_dst (N := 2) rfl ?_); refine bx (N := 2) (cs := #[.int .i64 a0_0, .slice A0_1 l0_1.length c0_1, .slice A0_2 l0_2.length c0_2]) (t := 40) ?_; intro gb250 hg w7 hbox hb; have BK250 := aM (hbox); have GE250 := aM (gw (w := w) hg); replace HB := aM (bS (bl) hb); clear hb hbox hg) | ((with_reducible refine gate_dst (N := 3) rfl ?_); refine bx (N := 3) (cs := #[.int .i64 a1_0, .slice A1_1 l1_1.length c1_1, .slice A1_2 l1_2.length c1_2]) (t := 40) ?_; intro gb251 hg w8 hbox hb; have BK251 := aM (hbox); have GE251 := aM (gw (w := w) hg); obtain ⟨NB250_251, NB251_250⟩ := n2 BK250 hg; replace BK250 := aM (kB (kl BK250) hb); replace HB := aM (bS (bl) hb); clear hb hbox hg; have hn9 := nn NB250_251; have hz10 := bc3 BK250; have hz11 := bc3 BK251) | (go_at_call 88; (with_reducible refine (slices_Equal_int_int.calls k _ _ l0_1 _ _ l1_1 true _ ?side1 ?side2 ?side3 ?side4 A4.out).mono ?_); (case side1 => exact cl HR0_1); (case side2 => exact HC0_1.out); (case side3 => exact cl HR1_1); (case side4 => exact HC1_1.out); rintro e w' ⟨rfl, ⟨nd, rfl⟩⟩) | (go_at_call 85; (with_reducible refine (api_Tag.calls k _ _ l0_2 _ _ l1_2 t253 _ ?side1 ?side2 ?side3 ?side4 A6.out).mono ?_); (case side1 => repeat (first | exact (Kd.C_below HR0_2.out (bl)) | (with_reducible refine cA ?_ _) | (with_reducible refine cN ?_ _) | (with_reducible refine cD ?_))); (case side2 => exact HC0_2.out); (case side3 => repeat (first | exact (Kd.C_below HR1_2.out (bl)) | (with_reducible refine cA ?_ _) | (with_reducible refine cN ?_ _) | (with_reducible refine cD ?_))); (case side4 => exact HC1_2.out); rintro e w' ⟨rfl, ⟨nd, rfl⟩⟩))
   go_ret; exact ⟨by first | rfl | (simp [errW_none, errW_some] <;> rfl) | (simp [*, errW_none, errW_some] <;> rfl), bl⟩
  ·replace c5 := Bool.eq_false_iff.mpr c5; subst c5; have H1 : (some false) = some r := by rw [if_neg (show ¬ (false = true) by decide)] at H; exact H
   clear H; have H := H1; clear H1; obtain rfl := Option.some.inj H; go_enter Tryz.func87, Tryz.ntmps87
   go_wp2_with (first | ((with_reducible refine gate_dst (N := 2) rfl ?_); refine bx (N := 2) (cs := #[.int .i64 a0_0, .slice A0_1 l0_1.length c0_1, .slice A0_2 l0_2.length c0_2]) (t := 40) ?_; intro gb250 hg w12 hbox hb; have BK250 := aM (hbox); have GE250 := aM (gw (w := w) hg); replace HB := aM (bS (bl) hb); clear hb hbox hg) | ((with_reducible refine gate_dst (N := 3) rfl ?_); refine bx (N := 3) (cs := #[.int .i64 a1_0, .slice A1_1 l1_1.length c1_1, .slice A1_2 l1_2.length c1_2]) (t := 40) ?_; intro gb251 hg w13 hbox hb; have BK251 := aM (hbox); have GE251 := aM (gw (w := w) hg); obtain ⟨NB250_251, NB251_250⟩ := n2 BK250 hg; replace BK250 := aM (kB (kl BK250) hb); replace HB := aM (bS (bl) hb); clear hb hbox hg; have hn14 := nn NB250_251; have hz15 := bc3 BK250; have hz16 := bc3 BK251) | (go_at_call 88; (with_reducible refine (slices_Equal_int_int.calls k _ _ l0_1 _ _ l1_1 false _ ?side1 ?side2 ?side3 ?side4 A4.out).mono ?_); (case side1 => exact cl HR0_1); (case side2 => exact HC0_1.out); (case side3 => exact cl HR1_1); (case side4 => exact HC1_1.out); rintro e w' ⟨rfl, ⟨nd, rfl⟩⟩))
   go_ret; exact ⟨by first | rfl | (simp [errW_none, errW_some] <;> rfl) | (simp [*, errW_none, errW_some] <;> rfl), bl⟩
 ·rw [if_neg c3] at H; have c3b0 : (a0_0 == a1_0) = false := beq_eq_false_iff_ne.mpr c3; have c3b1 : (a0_0 != a1_0) = true := bne_iff_ne.mpr c3; obtain rfl := Option.some.inj H; go_enter Tryz.func87, Tryz.ntmps87
  go_wp2_with (first | ((with_reducible refine gate_dst (N := 2) rfl ?_); refine bx (N := 2) (cs := #[.int .i64 a0_0, .slice A0_1 l0_1.length c0_1, .slice A0_2 l0_2.length c0_2]) (t := 40) ?_; intro gb250 hg w17 hbox hb; have BK250 := aM (hbox); have GE250 := aM (gw (w := w) hg); replace HB := aM (bS (bl) hb); clear hb hbox hg) | ((with_reducible refine gate_dst (N := 3) rfl ?_); refine bx (N := 3) (cs := #[.int .i64 a1_0, .slice A1_1 l1_1.length c1_1, .slice A1_2 l1_2.length c1_2]) (t := 40) ?_; intro gb251 hg w18 hbox hb; have BK251 := aM (hbox); have GE251 := aM (gw (w := w) hg); obtain ⟨NB250_251, NB251_250⟩ := n2 BK250 hg; replace BK250 := aM (kB (kl BK250) hb); replace HB := aM (bS (bl) hb); clear hb hbox hg; have hn19 := nn NB250_251; have hz20 := bc3 BK250; have hz21 := bc3 BK251))
  go_ret; exact ⟨by first | rfl | (simp [errW_none, errW_some] <;> rfl) | (simp [*, errW_none, errW_some] <;> rfl), bl⟩
-- NOT PRINTED: function 86 (api_Way)
def api_Member_91.l0 : Nat → List (S112) → List (S112) → Int → Int → Option (Bool)
 | 0, _, _, _, _ => none
 | k + 1, x0, x1, x12, x13 => if x13 < x12 then (if 0 ≤ x13 then (if x13 < (x0.length : Int) then (if x13 < (x1.length : Int) then (if ((!(((rd_T112 x0 x13).f0.f0) == ((rd_T112 x1 x13).f0.f0)) || (!(((rd_T112 x0 x13).f0.f1) == ((rd_T112 x1 x13).f0.f1)))) || (!((((rd_T112 x0 x13).f1).toList) == (((rd_T112 x1 x13).f1).toList)))) = true then (some false) else (api_Member_91.l0 k x0 x1 x12 (wrap64 (x13 + 1)))) else (none)) else (none)) else (none)) else (some true)
def api_Member_91.f (k : Nat) (l0 : List (S112)) (l1 : List (S112)) : Option (Bool) := if (l0.length : Int) = (l1.length : Int) then (api_Member_91.l0 k l0 l1 (l0.length : Int) 0) else (some false)
theorem api_Member_91.mono_l : ∀ k, (∀ y0 y1 y2 y3, LeO (api_Member_91.l0 k y0 y1 y2 y3) (api_Member_91.l0 (k + 1) y0 y1 y2 y3))
 | 0 => fun _ _ _ _ r h => by simp [api_Member_91.l0] at h
 | k + 1 => by
  have ih0 := api_Member_91.mono_l k
  ·intro y0 y1 y2 y3
   unfold api_Member_91.l0
   repeat' first
   | (with_reducible exact ih0 _ _ _ _)
   | (with_reducible exact LeO.refl _)
   | (with_reducible exact LeO.none _)
   | (with_reducible refine LeO.ite ?_ ?_)
   | (with_reducible refine LeO.bind ?_ (fun _ => ?_))
   | exact ih0 _ _ _ _
   | exact LeO.none _
   | refine LeO.ite ?_ ?_
   | refine LeO.bind ?_ (fun _ => ?_)
theorem api_Member_91.mono : ∀ a0 a1 k, LeO (api_Member_91.f k a0 a1) (api_Member_91.f (k + 1) a0 a1) := by
 intro a0 a1 k; have ih0 := api_Member_91.mono_l k; unfold api_Member_91.f
 repeat' first
   | (with_reducible exact ih0 _ _ _ _)
   | (with_reducible exact LeO.refl _)
   | (with_reducible exact LeO.none _)
   | (with_reducible refine LeO.ite ?_ ?_)
   | (with_reducible refine LeO.bind ?_ (fun _ => ?_))
   | exact ih0 _ _ _ _
   | exact LeO.none _
   | refine LeO.ite ?_ ?_
   | refine LeO.bind ?_ (fun _ => ?_)
set_option maxHeartbeats 8000000 in
set_option maxRecDepth 100000 in
theorem api_Member_91.calls (k : Nat) (A0 : Option Addr) (c0 : Nat) (l0 : List (S112)) (A1 : Option Addr) (c1 : Nat) (l1 : List (S112)) (r : Bool) (w : World) (hr0 : Kd.C k112 w A0 l0.length l0) (hc0 : l0.length ≤ c0) (hr1 : Kd.C k112 w A1 l1.length l1) (hc1 : l1.length ≤ c1) (h : api_Member_91.f k l0 l1 = some r) :
  Calls Tryz.prog 91 #[.slice A0 l0.length c0, .slice A1 l1.length c1] w fun e w' => e = .returned (.bool r) ∧ Drawn0 w w' := by
 have hu112 := Tryz.underlying112; have HR0 := aM hr0; have HC0 := aM hc0; clear hr0 hc0; have HR1 := aM hr1; have HC1 := aM hc1; clear hr1 hc1; have H : (if (l0.length : Int) = (l1.length : Int) then (api_Member_91.l0 k l0 l1 (l0.length : Int) 0) else (some false)) = some r := h; clear h
 by_cases c3 : (l0.length : Int) = (l1.length : Int)
 ·rw [if_pos c3] at H; have c3b0 : ((l0.length : Int) == (l1.length : Int)) = true := beq_iff_eq.mpr c3; have c3b1 : ((l0.length : Int) != (l1.length : Int)) = false := bne_eq_false_iff_eq.mpr c3; have c3b2 : (l0.length == l1.length) = true := by first | simpa using c3 | (simp at c3 ⊢; omega)
  clear c3; have H' := aM H; clear H; go_enter Tryz.func91, Tryz.ntmps91
  go_wp2
  repeat (go_quiet (fail); try go_wp2)
  go_loopg [13] k (fun kq v13 w' => ∃ (x13_1 : Int), v13 = .int .i64 x13_1 ∧ Aside0 (api_Member_91.l0 kq l0 l1 (l0.length : Int) x13_1 = some r) ∧ Aside0 (kq ≤ k) ∧ Drawn0 w w')
  case atStart => exact ⟨(0), (by first | rfl | (simp; done) | (simp [*]; done)), H', ⟨Nat.le_refl _⟩, by repeat (first | exact Drawn0.refl _ | apply Drawn0.step)⟩
  case round =>
   clear H'; (try clear c1); (try clear c3); (try clear c3b0); (try clear c3b1); (try clear c3b2); obtain ⟨x13_1, rfl, HA, HK1, ⟨m1, rfl⟩⟩ := hrel
   cases gk with
   | zero => exact absurd HA.out (by simp [api_Member_91.l0])
   | succ k1 =>
    have H := HA.out; clear HA; simp only [api_Member_91.l0] at H
    by_cases c4 : x13_1 < (l0.length : Int)
    ·rw [if_pos c4] at H; have c4b0 : decide (x13_1 < (l0.length : Int)) = true := decide_eq_true c4; clear c4
     by_cases c5 : 0 ≤ x13_1
     ·rw [if_pos c5] at H; have c5b0 : decide (0 ≤ x13_1) = true := decide_eq_true c5; clear c5
      by_cases c6 : x13_1 < (l0.length : Int)
      ·rw [if_pos c6] at H; have c6b0 : decide (x13_1 < (l0.length : Int)) = true := decide_eq_true c6; clear c6
       by_cases c7 : x13_1 < (l1.length : Int)
       ·rw [if_pos c7] at H; have c7b0 : decide (x13_1 < (l1.length : Int)) = true := decide_eq_true c7; clear c7
        by_cases c8 : ((!(((rd_T112 l0 x13_1).f0.f0) == ((rd_T112 l1 x13_1).f0.f0)) || (!(((rd_T112 l0 x13_1).f0.f1) == ((rd_T112 l1 x13_1).f0.f1)))) || (!((((rd_T112 l0 x13_1).f1).toList) == (((rd_T112 l1 x13_1).f1).toList)))) = true
        ·rw [if_pos c8] at H; have c8b0 : ((!(((rd_T112 l0 x13_1).f0.f0) == ((rd_T112 l1 x13_1).f0.f0)) || (!(((rd_T112 l0 x13_1).f0.f1) == ((rd_T112 l1 x13_1).f0.f1)))) || (!((((rd_T112 l0 x13_1).f1).toList) == (((rd_T112 l1 x13_1).f1).toList)))) = true := c8; clear c8; obtain rfl := Option.some.inj H; have p254 : 0 ≤ (x13_1 : Int) := oT; have q254 : x13_1 < (l0.length : Int) := oT; obtain ⟨ad254, e254, hx254_0, hx254_1, hx254_2⟩ := at_T112 HR0.out x13_1 p254 q254; cases e254
         replace p254 := eq_true p254; replace q254 := eq_true q254; have p255 : 0 ≤ (x13_1 : Int) := oT; have q255 : x13_1 < (l1.length : Int) := oT; obtain ⟨ad255, e255, hx255_0, hx255_1, hx255_2⟩ := at_T112 HR1.out x13_1 p255 q255; cases e255
         replace p255 := eq_true p255; replace q255 := eq_true q255
         go_wp2
         repeat (go_quiet (fail); try go_wp2)
         go_ret; exact ⟨by first | rfl | (simp; done) | (simp [*]; done), by repeat (first | exact Drawn0.refl _ | apply Drawn0.step)⟩
        ·rw [if_neg c8] at H; have c8b0 : ((!(((rd_T112 l0 x13_1).f0.f0) == ((rd_T112 l1 x13_1).f0.f0)) || (!(((rd_T112 l0 x13_1).f0.f1) == ((rd_T112 l1 x13_1).f0.f1)))) || (!((((rd_T112 l0 x13_1).f1).toList) == (((rd_T112 l1 x13_1).f1).toList)))) = false := by simpa using c8
         clear c8; have H' := aM H; clear H; have p254 : 0 ≤ (x13_1 : Int) := oT; have q254 : x13_1 < (l0.length : Int) := oT; obtain ⟨ad254, e254, hx254_0, hx254_1, hx254_2⟩ := at_T112 HR0.out x13_1 p254 q254; cases e254
         replace p254 := eq_true p254; replace q254 := eq_true q254; have p255 : 0 ≤ (x13_1 : Int) := oT; have q255 : x13_1 < (l1.length : Int) := oT; obtain ⟨ad255, e255, hx255_0, hx255_1, hx255_2⟩ := at_T112 HR1.out x13_1 p255 q255; cases e255
         replace p255 := eq_true p255; replace q255 := eq_true q255
         go_wp2
         repeat (go_quiet (fail); try go_wp2)
         go_roundg k1
         case measure => have := HK1.out; omega
         case rel => exact ⟨(wrap64 (x13_1 + 1)), (by first | rfl | (simp; done) | (simp [*]; done)), H', ⟨by have := HK1.out; omega⟩, by repeat (first | exact Drawn0.refl _ | apply Drawn0.step)⟩
       ·rw [if_neg c7] at H; exact absurd H (by simp)
      ·rw [if_neg c6] at H; exact absurd H (by simp)
     ·rw [if_neg c5] at H; exact absurd H (by simp)
    ·rw [if_neg c4] at H; have c4b0 : decide (x13_1 < (l0.length : Int)) = false := decide_eq_false c4; clear c4; obtain rfl := Option.some.inj H
     go_wp2
     repeat (go_quiet (fail); try go_wp2)
     go_ret; exact ⟨by first | rfl | (simp; done) | (simp [*]; done), by repeat (first | exact Drawn0.refl _ | apply Drawn0.step)⟩
 ·rw [if_neg c3] at H; have c3b0 : ((l0.length : Int) == (l1.length : Int)) = false := beq_eq_false_iff_ne.mpr c3; have c3b1 : ((l0.length : Int) != (l1.length : Int)) = true := bne_iff_ne.mpr c3; have c3b2 : (l0.length == l1.length) = false := by first | simpa using c3 | (simp at c3 ⊢; omega)
  obtain rfl := Option.some.inj H; go_enter Tryz.func91, Tryz.ntmps91
  go_wp2
  repeat (go_quiet (fail); try go_wp2)
  go_ret; exact ⟨by first | rfl | (simp; done) | (simp [*]; done), by repeat (first | exact Drawn0.refl _ | apply Drawn0.step)⟩
def data_Same_3.f (k : Nat) (a0_0 : Int) (l0_1 : List (S112)) (l0_2 : List (S129)) (a1_0 : Int) (l1_1 : List (S112)) (l1_2 : List (S129)) : Option (Bool) := if a0_0 = a1_0 then ((api_Member_91.f k l0_1 l1_1).bind fun t258 => (if t258 = true then ((api_Tag.f k l0_2 l1_2).bind fun t259 => (some t259)) else (some false))) else (some false)
theorem data_Same_3.mono : ∀ a0 a1 a2 a3 a4 a5 k, LeO (data_Same_3.f k a0 a1 a2 a3 a4 a5) (data_Same_3.f (k + 1) a0 a1 a2 a3 a4 a5) := by
 intro a0 a1 a2 a3 a4 a5 k; unfold data_Same_3.f
 repeat' first
   | (with_reducible exact api_Member_91.mono _ _ _)
   | (with_reducible exact api_Tag.mono _ _ _)
   | (with_reducible exact LeO.refl _)
   | (with_reducible exact LeO.none _)
   | (with_reducible refine LeO.ite ?_ ?_)
   | (with_reducible refine LeO.bind ?_ (fun _ => ?_))
   | exact api_Member_91.mono _ _ _
   | exact api_Tag.mono _ _ _
   | exact LeO.none _
   | refine LeO.ite ?_ ?_
   | refine LeO.bind ?_ (fun _ => ?_)
set_option maxHeartbeats 8000000 in
set_option maxRecDepth 100000 in
theorem data_Same_3.calls (k : Nat) (a0_0 : Int) (A0_1 : Option Addr) (c0_1 : Nat) (l0_1 : List (S112)) (A0_2 : Option Addr) (c0_2 : Nat) (l0_2 : List (S129)) (a1_0 : Int) (A1_1 : Option Addr) (c1_1 : Nat) (l1_1 : List (S112)) (A1_2 : Option Addr) (c1_2 : Nat) (l1_2 : List (S129)) (r : Bool) (w : World) (hr0_1 : Kd.C k112 w A0_1 l0_1.length l0_1) (hc0_1 : l0_1.length ≤ c0_1) (hr0_2 : Kd.C k129 w A0_2 l0_2.length l0_2) (hc0_2 : l0_2.length ≤ c0_2) (hr1_1 : Kd.C k112 w A1_1 l1_1.length l1_1) (hc1_1 : l1_1.length ≤ c1_1) (hr1_2 : Kd.C k129 w A1_2 l1_2.length l1_2) (hc1_2 : l1_2.length ≤ c1_2) (h : data_Same_3.f k a0_0 l0_1 l0_2 a1_0 l1_1 l1_2 = some r) :
  Calls Tryz.prog 90 #[.agg #[.int .i64 a0_0, .slice A0_1 l0_1.length c0_1, .slice A0_2 l0_2.length c0_2], .agg #[.int .i64 a1_0, .slice A1_1 l1_1.length c1_1, .slice A1_2 l1_2.length c1_2]] w fun e w' => e = .returned (.bool r) ∧ Below w.heap.size w w' := by
 have hu43 := Tryz.underlying43; have HR0_1 := aM hr0_1; have HC0_1 := aM hc0_1; clear hr0_1 hc0_1; have HR0_2 := aM hr0_2; have HC0_2 := aM hc0_2; clear hr0_2 hc0_2; have HR1_1 := aM hr1_1; have HC1_1 := aM hc1_1; clear hr1_1 hc1_1; have HR1_2 := aM hr1_2; have HC1_2 := aM hc1_2; clear hr1_2 hc1_2; have HB := aM (Below.refl w.heap.size w); have H : (if a0_0 = a1_0 then ((api_Member_91.f k l0_1 l1_1).bind fun t258 => (if t258 = true then ((api_Tag.f k l0_2 l1_2).bind fun t259 => (some t259)) else (some false))) else (some false)) = some r := h; clear h
 by_cases c3 : a0_0 = a1_0
 ·rw [if_pos c3] at H; have c3b0 : (a0_0 == a1_0) = true := beq_iff_eq.mpr c3; have c3b1 : (a0_0 != a1_0) = false := bne_eq_false_iff_eq.mpr c3; clear c3; replace H := Option.bind_eq_some_iff.mp H; obtain ⟨t258, A40, H⟩ := H; (try dsimp only at H); have A4 := aM A40; clear A40
  by_cases c5 : t258 = true
  ·subst c5; have H1 : ((api_Tag.f k l0_2 l1_2).bind fun t259 => (some t259)) = some r := by rw [if_pos rfl] at H; exact H
   clear H; have H := H1; clear H1; replace H := Option.bind_eq_some_iff.mp H; obtain ⟨t259, A60, H⟩ := H; (try dsimp only at H); have A6 := aM A60; clear A60; obtain rfl := Option.some.inj H; go_enter Tryz.func90, Tryz.ntmps90
   go_wp2_with (first | ((with_reducible refine gate_dst (N := 2) rfl ?_); refine bx (N := 2) (cs := #[.int .i64 a0_0, .slice A0_1 l0_1.length c0_1, .slice A0_2 l0_2.length c0_2]) (t := 43) ?_; intro gb256 hg w7 hbox hb; have BK256 := aM (hbox); have GE256 := aM (gw (w := w) hg); replace HB := aM (bS (bl) hb); clear hb hbox hg) | ((with_reducible refine gate_dst (N := 3) rfl ?_); refine bx (N := 3) (cs := #[.int .i64 a1_0, .slice A1_1 l1_1.length c1_1, .slice A1_2 l1_2.length c1_2]) (t := 43) ?_; intro gb257 hg w8 hbox hb; have BK257 := aM (hbox); have GE257 := aM (gw (w := w) hg); obtain ⟨NB256_257, NB257_256⟩ := n2 BK256 hg; replace BK256 := aM (kB (kl BK256) hb); replace HB := aM (bS (bl) hb); clear hb hbox hg; have hn9 := nn NB256_257; have hz10 := bc3 BK256; have hz11 := bc3 BK257) | (go_at_call 91; (with_reducible refine (api_Member_91.calls k _ _ l0_1 _ _ l1_1 true _ ?side1 ?side2 ?side3 ?side4 A4.out).mono ?_); (case side1 => exact cl HR0_1); (case side2 => exact HC0_1.out); (case side3 => exact cl HR1_1); (case side4 => exact HC1_1.out); rintro e w' ⟨rfl, ⟨nd, rfl⟩⟩) | (go_at_call 85; (with_reducible refine (api_Tag.calls k _ _ l0_2 _ _ l1_2 t259 _ ?side1 ?side2 ?side3 ?side4 A6.out).mono ?_); (case side1 => repeat (first | exact (Kd.C_below HR0_2.out (bl)) | (with_reducible refine cA ?_ _) | (with_reducible refine cN ?_ _) | (with_reducible refine cD ?_))); (case side2 => exact HC0_2.out); (case side3 => repeat (first | exact (Kd.C_below HR1_2.out (bl)) | (with_reducible refine cA ?_ _) | (with_reducible refine cN ?_ _) | (with_reducible refine cD ?_))); (case side4 => exact HC1_2.out); rintro e w' ⟨rfl, ⟨nd, rfl⟩⟩))
   go_ret; exact ⟨by first | rfl | (simp [errW_none, errW_some] <;> rfl) | (simp [*, errW_none, errW_some] <;> rfl), bl⟩
  ·replace c5 := Bool.eq_false_iff.mpr c5; subst c5; have H1 : (some false) = some r := by rw [if_neg (show ¬ (false = true) by decide)] at H; exact H
   clear H; have H := H1; clear H1; obtain rfl := Option.some.inj H; go_enter Tryz.func90, Tryz.ntmps90
   go_wp2_with (first | ((with_reducible refine gate_dst (N := 2) rfl ?_); refine bx (N := 2) (cs := #[.int .i64 a0_0, .slice A0_1 l0_1.length c0_1, .slice A0_2 l0_2.length c0_2]) (t := 43) ?_; intro gb256 hg w12 hbox hb; have BK256 := aM (hbox); have GE256 := aM (gw (w := w) hg); replace HB := aM (bS (bl) hb); clear hb hbox hg) | ((with_reducible refine gate_dst (N := 3) rfl ?_); refine bx (N := 3) (cs := #[.int .i64 a1_0, .slice A1_1 l1_1.length c1_1, .slice A1_2 l1_2.length c1_2]) (t := 43) ?_; intro gb257 hg w13 hbox hb; have BK257 := aM (hbox); have GE257 := aM (gw (w := w) hg); obtain ⟨NB256_257, NB257_256⟩ := n2 BK256 hg; replace BK256 := aM (kB (kl BK256) hb); replace HB := aM (bS (bl) hb); clear hb hbox hg; have hn14 := nn NB256_257; have hz15 := bc3 BK256; have hz16 := bc3 BK257) | (go_at_call 91; (with_reducible refine (api_Member_91.calls k _ _ l0_1 _ _ l1_1 false _ ?side1 ?side2 ?side3 ?side4 A4.out).mono ?_); (case side1 => exact cl HR0_1); (case side2 => exact HC0_1.out); (case side3 => exact cl HR1_1); (case side4 => exact HC1_1.out); rintro e w' ⟨rfl, ⟨nd, rfl⟩⟩))
   go_ret; exact ⟨by first | rfl | (simp [errW_none, errW_some] <;> rfl) | (simp [*, errW_none, errW_some] <;> rfl), bl⟩
 ·rw [if_neg c3] at H; have c3b0 : (a0_0 == a1_0) = false := beq_eq_false_iff_ne.mpr c3; have c3b1 : (a0_0 != a1_0) = true := bne_iff_ne.mpr c3; obtain rfl := Option.some.inj H; go_enter Tryz.func90, Tryz.ntmps90
  go_wp2_with (first | ((with_reducible refine gate_dst (N := 2) rfl ?_); refine bx (N := 2) (cs := #[.int .i64 a0_0, .slice A0_1 l0_1.length c0_1, .slice A0_2 l0_2.length c0_2]) (t := 43) ?_; intro gb256 hg w17 hbox hb; have BK256 := aM (hbox); have GE256 := aM (gw (w := w) hg); replace HB := aM (bS (bl) hb); clear hb hbox hg) | ((with_reducible refine gate_dst (N := 3) rfl ?_); refine bx (N := 3) (cs := #[.int .i64 a1_0, .slice A1_1 l1_1.length c1_1, .slice A1_2 l1_2.length c1_2]) (t := 43) ?_; intro gb257 hg w18 hbox hb; have BK257 := aM (hbox); have GE257 := aM (gw (w := w) hg); obtain ⟨NB256_257, NB257_256⟩ := n2 BK256 hg; replace BK256 := aM (kB (kl BK256) hb); replace HB := aM (bS (bl) hb); clear hb hbox hg; have hn19 := nn NB256_257; have hz20 := bc3 BK256; have hz21 := bc3 BK257))
  go_ret; exact ⟨by first | rfl | (simp [errW_none, errW_some] <;> rfl) | (simp [*, errW_none, errW_some] <;> rfl), bl⟩
-- NOT PRINTED: function 89 (api_Rel)
def api_Node_by_data_Same_1.go (k : Nat) : List S37 → List S37 → Option Bool
 | x :: xs, y :: ys => (data_Same_1.f k x.f0 x.f1.f0 x.f1.f1 x.f2 y.f0 y.f1.f0 y.f1.f1 y.f2).bind fun b => if b = true then api_Node_by_data_Same_1.go k xs ys else some false
 | _, _ => some true
def api_Node_by_data_Same_1.f (k : Nat) (l0 : List (S37)) (l1 : List (S37)) : Option (Bool) := if l0.length = l1.length then api_Node_by_data_Same_1.go k l0 l1 else some false
theorem api_Node_by_data_Same_1.mono_go (k : Nat) : ∀ l0 l1, LeO (api_Node_by_data_Same_1.go k l0 l1) (api_Node_by_data_Same_1.go (k + 1) l0 l1)
 | [], _ => LeO.refl _
 | _ :: _, [] => LeO.refl _
 | x :: xs, y :: ys => LeO.bind (data_Same_1.mono _ _ _ _ _ _ _ _ k) (fun b => LeO.ite (api_Node_by_data_Same_1.mono_go k xs ys) (LeO.refl _))
theorem api_Node_by_data_Same_1.mono : ∀ a0 a1 k, LeO (api_Node_by_data_Same_1.f k a0 a1) (api_Node_by_data_Same_1.f (k + 1) a0 a1) := fun a0 a1 k => LeO.ite (api_Node_by_data_Same_1.mono_go k a0 a1) (LeO.refl _)
set_option maxHeartbeats 8000000 in
set_option maxRecDepth 100000 in
theorem api_Node_by_data_Same_1.eqf (k g : Nat) (eg : ∀ args w, (callFunc g args).run Tryz.prog w = .ok (.enter g args) w) (hq : ∀ (x y : S37) (b : Bool) (A3 : Option Addr) (c3 : Nat) (A3y : Option Addr) (c3y : Nat) (W : World) (hx3 : Kd.C k129 W A3 x.f2.length x.f2) (gx3 : x.f2.length ≤ c3) (hy3 : Kd.C k129 W A3y y.f2.length y.f2) (gy3 : y.f2.length ≤ c3y), data_Same_1.f k x.f0 x.f1.f0 x.f1.f1 x.f2 y.f0 y.f1.f0 y.f1.f1 y.f2 = some b → Calls Tryz.prog g #[.agg #[.int .i64 x.f0, .int .i64 x.f1.f0, .int .i64 x.f1.f1, .slice A3 x.f2.length c3], .agg #[.int .i64 y.f0, .int .i64 y.f1.f0, .int .i64 y.f1.f1, .slice A3y y.f2.length c3y]] W fun e w' => e = .returned (.bool b) ∧ Below W.heap.size W w') (A0 : Option Addr) (c0 : Nat) (l0 : List (S37)) (A1 : Option Addr) (c1 : Nat) (l1 : List (S37)) (r : Bool) (w : World) (hr0 : Kd.C k37 w A0 l0.length l0) (hc0 : l0.length ≤ c0) (hr1 : Kd.C k37 w A1 l1.length l1) (hc1 : l1.length ≤ c1) (h : api_Node_by_data_Same_1.f k l0 l1 = some r) :
  Calls Tryz.prog 83 #[.slice A0 l0.length c0, .slice A1 l1.length c1, .func (.func g) #[] #[]] w fun e w' => e = .returned (.bool r) ∧ Below w.heap.size w w' := by
 have hu37 := Tryz.underlying37; have hb0 : l0.length ≤ 9223372036854775807 := hr0.2.1; have hb1 : l1.length ≤ 9223372036854775807 := hr1.2.1; have HQ := aM hq; clear hq; have HR0 := aM hr0; have HR1 := aM hr1; clear hr0 hr1; unfold api_Node_by_data_Same_1.f at h
 by_cases hl : l0.length = l1.length
 ·rw [if_pos hl] at h; have HH := aM h; have HL := aM hl; have e0 : ((l0.length : Int) == (l1.length : Int)) = true := beq_iff_eq.mpr (by omega); have e1 : ((l0.length : Int) != (l1.length : Int)) = false := bne_eq_false_iff_eq.mpr (by omega); clear h hl; go_enter Tryz.func83, Tryz.ntmps83
  go_wp2
  clear e0 e1
  go_loopg [17] l0.length (fun gg v17 wr => ∃ i : Nat, i ≤ l0.length ∧ l0.length - i ≤ gg ∧ v17 = .int .i64 i ∧ Aside0 (api_Node_by_data_Same_1.go k (l0.drop i) (l1.drop i) = some r) ∧ Aside0 (Below w.heap.size w wr))
  case atStart => exact ⟨0, by omega, by omega, rfl, ⟨by rw [List.drop_zero, List.drop_zero]; exact HH.out⟩, ⟨Below.refl _ _⟩⟩
  case round =>
   obtain ⟨i, hi, hg, rfl, GO, BW⟩ := hrel
   by_cases hlt : i < l0.length
   ·have hltI : (i : Int) < (l0.length : Int) := by omega
    have hlt1 : i < l1.length := by have := HL.out; omega
    have hltJ : (i : Int) < (l1.length : Int) := by omega
    obtain ⟨ad, A3, c3, e0, hx0, hx1, hx2, hx3, hl3, hi3⟩ := at_T37 (Kd.C_below HR0.out BW.out) (i : Int) (by omega) hltI; cases e0
    obtain ⟨bd, A3y, c3y, e0, hy0, hy1, hy2, hy3, hm3, hj3⟩ := at_T37 (Kd.C_below HR1.out BW.out) (i : Int) (by omega) hltJ; cases e0
    have hx : rd_T37 l0 (i : Int) = l0[i] := by unfold rd_T37; rw [Int.toNat_natCast, List.getD_eq_getElem?_getD, List.getElem?_eq_getElem hlt]; rfl
    have hy : rd_T37 l1 (i : Int) = l1[i] := by unfold rd_T37; rw [Int.toNat_natCast, List.getD_eq_getElem?_getD, List.getElem?_eq_getElem hlt1]; rfl
    rw [hx] at hx0 hx1 hx2 hx3 hl3 hi3; rw [hy] at hy0 hy1 hy2 hy3 hm3 hj3; rw [Int.toNat_natCast] at hx0 hx1 hx2 hx3 hy0 hy1 hy2 hy3; have G := GO.out; rw [List.drop_eq_getElem_cons hlt, List.drop_eq_getElem_cons hlt1] at G; simp only [api_Node_by_data_Same_1.go] at G; clear hx hy GO; generalize l0[i] = x at hx0 hx1 hx2 hx3 hl3 hi3 G; generalize l1[i] = y at hy0 hy1 hy2 hy3 hm3 hj3 G; obtain ⟨b, hb, hG⟩ := Option.bind_eq_some_iff.mp G; have hcall := HQ.out x y b A3 c3 A3y c3y ((wr.alloc (.cells #[.int .i64 x.f0, .int .i64 x.f1.f0, .int .i64 x.f1.f1, .slice A3 x.f2.length c3] 37)).alloc (.cells #[.int .i64 y.f0, .int .i64 y.f1.f0, .int .i64 y.f1.f1, .slice A3y y.f2.length c3y] 37)) (cA (cA hi3 _) _) hl3 (cA (cA hj3 _) _) hm3 hb; have HCALL := aM hcall; have hbw : Below wr.heap.size wr (wr.alloc (.cells #[.int .i64 x.f0, .int .i64 x.f1.f0, .int .i64 x.f1.f1, .slice A3 x.f2.length c3] 37)) := (Below.refl _ _).alloc (Nat.le_refl _) _; replace hy0 := (hbw.cell (World.block_lt_of_cell? wr _ hy0)).trans hy0; replace hy1 := (hbw.cell (World.block_lt_of_cell? wr _ hy1)).trans hy1; replace hy2 := (hbw.cell (World.block_lt_of_cell? wr _ hy2)).trans hy2; replace hy3 := (hbw.cell (World.block_lt_of_cell? wr _ hy3)).trans hy3; clear hbw hcall hi3 hj3 hl3 hm3 hb G
    cases b with
    | true =>
     have HG := aM ((if_pos rfl).symm.trans hG); clear hG
     go_wp2_with (first | (go_at_fn g; refine HCALL.out.mono ?_; rintro e w' ⟨rfl, hb'⟩; have HB2 := aM (BW.out.trans (((bA (bA (Below.refl wr.heap.size wr) _) _).trans (hb'.mono (bA (bA (Below.refl wr.heap.size wr) _) _).size)).mono BW.out.size)); clear hb') | go_in)
     go_roundg (l0.length - (i + 1))
     case measure => omega
     case rel => exact ⟨i + 1, by omega, by omega, by go_num, HG, HB2⟩
    | false =>
     have HG := aM (Option.some.inj ((if_neg (by simp)).symm.trans hG)); clear hG
     go_wp2_with (first | (go_at_fn g; refine HCALL.out.mono ?_; rintro e w' ⟨rfl, hb'⟩; have HB2 := aM (BW.out.trans (((bA (bA (Below.refl wr.heap.size wr) _) _).trans (hb'.mono (bA (bA (Below.refl wr.heap.size wr) _) _).size)).mono BW.out.size)); clear hb') | go_in)
     go_ret; exact ⟨by rw [← HG.out] <;> rfl, HB2.out⟩
   ·have : i = l0.length := by omega
    subst this; have HG := aM (show r = true from by
     have := GO.out; rw [List.drop_length, HL.out, List.drop_length] at this; exact (Option.some.inj this).symm)
    go_wp2
    go_ret; exact ⟨by rw [HG.out] <;> rfl, BW.out⟩
 ·rw [if_neg hl] at h; have HH := aM (Option.some.inj h); have e0 : ((l0.length : Int) == (l1.length : Int)) = false := beq_eq_false_iff_ne.mpr (by omega); have e1 : ((l0.length : Int) != (l1.length : Int)) = true := bne_iff_ne.mpr (by omega); clear h hl; go_enter Tryz.func83, Tryz.ntmps83
  go_wp2
  go_ret; exact ⟨by rw [← HH.out] <;> rfl, Below.refl _ _⟩
theorem api_Node_by_data_Same_1.calls (k : Nat) (A0 : Option Addr) (c0 : Nat) (l0 : List (S37)) (A1 : Option Addr) (c1 : Nat) (l1 : List (S37)) (r : Bool) (w : World) (hr0 : Kd.C k37 w A0 l0.length l0) (hc0 : l0.length ≤ c0) (hr1 : Kd.C k37 w A1 l1.length l1) (hc1 : l1.length ≤ c1) (h : api_Node_by_data_Same_1.f k l0 l1 = some r) :
  Calls Tryz.prog 83 #[.slice A0 l0.length c0, .slice A1 l1.length c1, .func (.func 84) #[] #[]] w fun e w' => e = .returned (.bool r) ∧ Below w.heap.size w w' :=
 api_Node_by_data_Same_1.eqf k 84 (enters_of Tryz.func84 (by kernel_rfl) rfl) (fun x y b A3 c3 A3y c3y W hx3 gx3 hy3 gy3 hb => data_Same_1.calls k x.f0 x.f1.f0 x.f1.f1 _ _ x.f2 y.f0 y.f1.f0 y.f1.f1 _ _ y.f2 b W hx3 gx3 hy3 gy3 hb) A0 c0 l0 A1 c1 l1 r w hr0 hc0 hr1 hc1 h
end Go.Proofs.YtijoaohckgbneaaGreat.PAll
