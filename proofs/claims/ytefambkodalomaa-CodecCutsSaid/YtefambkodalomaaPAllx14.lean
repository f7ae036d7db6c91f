-- out of a driver of this session's prover over the kit's print: Lean checks it
import Derived.Test.YtefambkodalomaaPAllx0
import Derived.Test.YtefambkodalomaaPAllx13
namespace Go.Proofs.Ytefambkodalomaa.PAll
open Go.Proofs.YtefambkodalomaaG Go.Shelf Go.Lib
open Go.RowKit Go.Proofs.YtefambkodalomaaW.PrintWords Go.Proofs.YtefambkodalomaaW.PrintLast Go.Proofs.YtefambkodalomaaW.PrintMore
attribute [local go_sem] max2_int min2_int max_two min_two max_three min_three max_four min_four   -- for this text's walks alone
set_option linter.unusedVariables false
set_option linter.unusedSimpArgs false
def tags_Check.l0 : Nat → List (S130) → List (S130) → Int → Int → Option (Int)
 | 0, _, _, _, _ => none
 | k + 1, x0, x8, x9, x10 => if x10 < x9 then (if 0 ≤ x10 then (if x10 < (x8.length : Int) then ((tags_good.f ((rd_T130 x8 x10).f0) ((rd_T130 x8 x10).f1)).bind fun t489 => (if t489 = true then (if x10 > 0 then (if 0 ≤ (wrap64 (x10 - 1)) then (if (wrap64 (x10 - 1)) < (x0.length : Int) then (if ((Op.bytesLess (((rd_T130 x0 (wrap64 (x10 - 1))).f0).toList) (((rd_T130 x8 x10).f0).toList)) = true) then (tags_Check.l0 k x0 x8 x9 (wrap64 (x10 + 1))) else (some 6)) else (none)) else (none)) else (tags_Check.l0 k x0 x8 x9 (wrap64 (x10 + 1)))) else (some 10))) else (none)) else (none)) else (some 0)
def tags_Check.f (k : Nat) (l0 : List (S130)) : Option (Int) := if (l0.length : Int) > 16 then (some 5) else (tags_Check.l0 k l0 l0 (l0.length : Int) 0)
theorem tags_Check.mono_l : ∀ k, (∀ y0 y1 y2 y3, LeO (tags_Check.l0 k y0 y1 y2 y3) (tags_Check.l0 (k + 1) y0 y1 y2 y3))
 | 0 => fun _ _ _ _ r h => by simp [tags_Check.l0] at h
 | k + 1 => by
  have ih0 := tags_Check.mono_l k
  ·intro y0 y1 y2 y3
   unfold tags_Check.l0
   repeat' first
   | (with_reducible exact ih0 _ _ _ _)
   | (with_reducible exact LeO.refl _)
   | (with_reducible exact LeO.none _)
   | (with_reducible refine LeO.ite ?_ ?_)
   | (with_reducible refine LeO.eB ?_ (fun _ => ?_))
   | (with_reducible refine LeO.bind ?_ (fun _ => ?_))
   | exact ih0 _ _ _ _
   | exact LeO.none _
   | refine LeO.ite ?_ ?_
   | refine LeO.bind ?_ (fun _ => ?_)
theorem tags_Check.mono : ∀ a0 k, LeO (tags_Check.f k a0) (tags_Check.f (k + 1) a0) := by
 intro a0 k; have ih0 := tags_Check.mono_l k; unfold tags_Check.f
 repeat' first
   | (with_reducible exact ih0 _ _ _ _)
   | (with_reducible exact LeO.refl _)
   | (with_reducible exact LeO.none _)
   | (with_reducible refine LeO.ite ?_ ?_)
   | (with_reducible refine LeO.eB ?_ (fun _ => ?_))
   | (with_reducible refine LeO.bind ?_ (fun _ => ?_))
   | exact ih0 _ _ _ _
   | exact LeO.none _
   | refine LeO.ite ?_ ?_
   | refine LeO.bind ?_ (fun _ => ?_)
set_option maxHeartbeats 8000000 in
set_option maxRecDepth 100000 in
theorem tags_Check.calls (k : Nat) (A0 : Option Addr) (c0 : Nat) (l0 : List (S130)) (r : Int) (w : World) (hr0 : Kd.C k130 w A0 l0.length l0) (hc0 : l0.length ≤ c0) (h : tags_Check.f k l0 = some r) :
  Calls Try.prog 99 #[.slice A0 l0.length c0] w fun e w' => e = .returned (.int .i64 r) ∧ Below w.heap.size w w' := by
 have hu130 := Try.underlying130; have HR0 := aM hr0; have HC0 := aM hc0; clear hr0 hc0; have HB := aM (Below.refl w.heap.size w); have H : (if (l0.length : Int) > 16 then (some 5) else (tags_Check.l0 k l0 l0 (l0.length : Int) 0)) = some r := h; clear h
 by_cases c2 : (l0.length : Int) > 16
 ·rw [if_pos c2] at H; have c2b0 : decide (16 < (l0.length : Int)) = true := decide_eq_true c2; have c2b1 : decide (16 < l0.length) = true := decide_eq_true (by omega); clear c2; obtain rfl := Option.some.inj H; go_enter Try.func99, Try.ntmps99
  go_wp2
  repeat (go_quiet (fail); try go_wp2)
  go_ret; exact ⟨by first | rfl | (simp [errW_none, errW_some] <;> rfl) | (simp [*, errW_none, errW_some] <;> rfl), bl⟩
 ·rw [if_neg c2] at H; have c2b0 : decide (16 < (l0.length : Int)) = false := decide_eq_false c2; have c2b1 : decide (16 < l0.length) = false := decide_eq_false (by omega); clear c2; have H' := aM H; clear H; go_enter Try.func99, Try.ntmps99
  go_wp2
  repeat (go_quiet (fail); try go_wp2)
  go_loopg [10] k (fun kq v10 w' => ∃ (x10_1 : Int), v10 = .int .i64 x10_1 ∧ Aside0 (tags_Check.l0 kq l0 l0 (l0.length : Int) x10_1 = some r) ∧ Aside0 (kq ≤ k) ∧ Aside0 (Below w.heap.size w w'))
  case atStart => exact ⟨(0), (by first | rfl | (simp; done) | (simp [*]; done)), H', ⟨Nat.le_refl _⟩, ⟨bl⟩⟩
  case round =>
   clear H'; (try clear c2); (try clear c2b0); (try clear c2b1); obtain ⟨x10_1, rfl, HA, HK1, HB⟩ := hrel
   cases gk with
   | zero => exact absurd HA.out (by simp [tags_Check.l0])
   | succ k1 =>
    have H := HA.out; clear HA; simp only [tags_Check.l0] at H
    by_cases c3 : x10_1 < (l0.length : Int)
    ·rw [if_pos c3] at H; have c3b0 : decide (x10_1 < (l0.length : Int)) = true := decide_eq_true c3; clear c3
     by_cases c4 : 0 ≤ x10_1
     ·rw [if_pos c4] at H; have c4b0 : decide (0 ≤ x10_1) = true := decide_eq_true c4; clear c4
      by_cases c5 : x10_1 < (l0.length : Int)
      ·rw [if_pos c5] at H; have c5b0 : decide (x10_1 < (l0.length : Int)) = true := decide_eq_true c5; clear c5; replace H := Option.bind_eq_some_iff.mp H; obtain ⟨t489, A60, H⟩ := H; (try dsimp only at H); have A6 := aM A60; clear A60
       by_cases c7 : t489 = true
       ·subst c7; have H1 : (if x10_1 > 0 then (if 0 ≤ (wrap64 (x10_1 - 1)) then (if (wrap64 (x10_1 - 1)) < (l0.length : Int) then (if ((Op.bytesLess (((rd_T130 l0 (wrap64 (x10_1 - 1))).f0).toList) (((rd_T130 l0 x10_1).f0).toList)) = true) then (tags_Check.l0 k1 l0 l0 (l0.length : Int) (wrap64 (x10_1 + 1))) else (some 6)) else (none)) else (none)) else (tags_Check.l0 k1 l0 l0 (l0.length : Int) (wrap64 (x10_1 + 1)))) = some r := by rw [if_pos rfl] at H; exact H
        clear H; have H := H1; clear H1
        by_cases c8 : x10_1 > 0
        ·rw [if_pos c8] at H; have c8b0 : decide (0 < x10_1) = true := decide_eq_true c8; clear c8; obtain ⟨ji9, hji9⟩ : ∃ j_ : Int, (wrap64 (x10_1 - 1)) = j_ := ⟨_, rfl⟩; replace H : (if 0 ≤ (ji9) then (if (ji9) < (l0.length : Int) then (if ((Op.bytesLess (((rd_T130 l0 (ji9)).f0).toList) (((rd_T130 l0 x10_1).f0).toList)) = true) then (tags_Check.l0 k1 l0 l0 (l0.length : Int) (wrap64 (x10_1 + 1))) else (some 6)) else (none)) else (none)) = some r := by first | (rw [hji9] at H; exact H) | (simp only [hji9] at H ⊢; exact H)
         (try rw [hji9] at A6)
         have hji9w : (IntKind.i64.wrap (x10_1 - 1)) = ji9 := (i64_w _).trans hji9
         by_cases c10 : 0 ≤ (ji9)
         ·rw [if_pos c10] at H; have c10b0 : decide (0 ≤ (ji9)) = true := decide_eq_true c10; clear c10
          by_cases c11 : (ji9) < (l0.length : Int)
          ·rw [if_pos c11] at H; have c11b0 : decide ((ji9) < (l0.length : Int)) = true := decide_eq_true c11; clear c11
           by_cases c12 : ((Op.bytesLess (((rd_T130 l0 (ji9)).f0).toList) (((rd_T130 l0 x10_1).f0).toList)) = true)
           ·rw [if_pos c12] at H; have c12b0 : (Op.bytesLess (((rd_T130 l0 (ji9)).f0).toList) (((rd_T130 l0 x10_1).f0).toList)) = true := c12; clear c12; have H' := aM H; clear H; have p487 : 0 ≤ (x10_1 : Int) := oT; have q487 : x10_1 < (l0.length : Int) := oT; obtain ⟨ad487, e487, hx487_0, hx487_1⟩ := at_T130 HR0.out x10_1 p487 q487; cases e487
            replace hx487_0 := hs HB.out hx487_0; replace hx487_1 := hs HB.out hx487_1; replace p487 := eq_true p487; replace q487 := eq_true q487
            go_wp2_with (first | ((with_reducible refine gate_dst (N := 4) rfl ?_); refine bx (N := 4) (cs := #[.string (⟨#[]⟩ : ByteArray), .string (⟨#[]⟩ : ByteArray)]) (t := 130) ?_; intro gb488 hg w13 hbox hb; have BK488 := aM (hbox); have GE488 := aM (gw (w := w) hg); replace HB := aM (bS (bl) hb); clear hb hbox hg; have hz14 := bc2 BK488) | (go_at_call 115; (with_reducible refine (tags_good.calls ((rd_T130 l0 x10_1).f0) ((rd_T130 l0 x10_1).f1) true _ A6.out).mono ?_); rintro e w15 ⟨rfl, hb⟩; replace BK488 := aM (kB (g := gb488) (o := .cells #[.string ((rd_T130 l0 x10_1).f0), .string ((rd_T130 l0 x10_1).f1)] 130 (0, 0)) (bk BK488) hb); replace HB := aM (bS (bl) hb); (try clear hb); have hz16 := bc2 BK488; have p490 : 0 ≤ ((ji9) : Int) := of_decide_eq_true (by first | (with_reducible assumption) | assumption); have q490 : (ji9) < (l0.length : Int) := of_decide_eq_true (by first | (with_reducible assumption) | assumption); obtain ⟨ad490, e490, hx490_0, hx490_1⟩ := at_T130 HR0.out (ji9) p490 q490; obtain rfl : ad487 = ad490 := (by injection e490); replace hx490_0 := (HB.out.cell (World.block_lt_of_cell? w _ hx490_0)).trans hx490_0; replace hx490_1 := (HB.out.cell (World.block_lt_of_cell? w _ hx490_1)).trans hx490_1; replace p490 := eq_true p490; replace q490 := eq_true q490))
            repeat (go_quiet (first | ((with_reducible refine gate_dst (N := 4) rfl ?_); refine bx (N := 4) (cs := #[.string (⟨#[]⟩ : ByteArray), .string (⟨#[]⟩ : ByteArray)]) (t := 130) ?_; intro gb488 hg w13 hbox hb; have BK488 := aM (hbox); have GE488 := aM (gw (w := w) hg); replace HB := aM (bS (bl) hb); clear hb hbox hg; have hz14 := bc2 BK488) | (go_at_call 115; (with_reducible refine (tags_good.calls ((rd_T130 l0 x10_1).f0) ((rd_T130 l0 x10_1).f1) true _ A6.out).mono ?_); rintro e w15 ⟨rfl, hb⟩; replace BK488 := aM (kB (g := gb488) (o := .cells #[.string ((rd_T130 l0 x10_1).f0), .string ((rd_T130 l0 x10_1).f1)] 130 (0, 0)) (bk BK488) hb); replace HB := aM (bS (bl) hb); (try clear hb); have hz16 := bc2 BK488; have p490 : 0 ≤ ((ji9) : Int) := of_decide_eq_true (by first | (with_reducible assumption) | assumption); have q490 : (ji9) < (l0.length : Int) := of_decide_eq_true (by first | (with_reducible assumption) | assumption); obtain ⟨ad490, e490, hx490_0, hx490_1⟩ := at_T130 HR0.out (ji9) p490 q490; obtain rfl : ad487 = ad490 := (by injection e490); replace hx490_0 := (HB.out.cell (World.block_lt_of_cell? w _ hx490_0)).trans hx490_0; replace hx490_1 := (HB.out.cell (World.block_lt_of_cell? w _ hx490_1)).trans hx490_1; replace p490 := eq_true p490; replace q490 := eq_true q490)); try go_wp2_with (first | ((with_reducible refine gate_dst (N := 4) rfl ?_); refine bx (N := 4) (cs := #[.string (⟨#[]⟩ : ByteArray), .string (⟨#[]⟩ : ByteArray)]) (t := 130) ?_; intro gb488 hg w13 hbox hb; have BK488 := aM (hbox); have GE488 := aM (gw (w := w) hg); replace HB := aM (bS (bl) hb); clear hb hbox hg; have hz14 := bc2 BK488) | (go_at_call 115; (with_reducible refine (tags_good.calls ((rd_T130 l0 x10_1).f0) ((rd_T130 l0 x10_1).f1) true _ A6.out).mono ?_); rintro e w15 ⟨rfl, hb⟩; replace BK488 := aM (kB (g := gb488) (o := .cells #[.string ((rd_T130 l0 x10_1).f0), .string ((rd_T130 l0 x10_1).f1)] 130 (0, 0)) (bk BK488) hb); replace HB := aM (bS (bl) hb); (try clear hb); have hz16 := bc2 BK488; have p490 : 0 ≤ ((ji9) : Int) := of_decide_eq_true (by first | (with_reducible assumption) | assumption); have q490 : (ji9) < (l0.length : Int) := of_decide_eq_true (by first | (with_reducible assumption) | assumption); obtain ⟨ad490, e490, hx490_0, hx490_1⟩ := at_T130 HR0.out (ji9) p490 q490; obtain rfl : ad487 = ad490 := (by injection e490); replace hx490_0 := (HB.out.cell (World.block_lt_of_cell? w _ hx490_0)).trans hx490_0; replace hx490_1 := (HB.out.cell (World.block_lt_of_cell? w _ hx490_1)).trans hx490_1; replace p490 := eq_true p490; replace q490 := eq_true q490)))
            go_roundg k1
            case measure => have := HK1.out; omega
            case rel => exact ⟨(wrap64 (x10_1 + 1)), (by first | rfl | (simp; done) | (simp [*]; done)), H', ⟨by have := HK1.out; omega⟩, ⟨bl⟩⟩
           ·rw [if_neg c12] at H; have c12b0 : (Op.bytesLess (((rd_T130 l0 (ji9)).f0).toList) (((rd_T130 l0 x10_1).f0).toList)) = false := by simpa using c12
            clear c12; obtain rfl := Option.some.inj H; have p487 : 0 ≤ (x10_1 : Int) := oT; have q487 : x10_1 < (l0.length : Int) := oT; obtain ⟨ad487, e487, hx487_0, hx487_1⟩ := at_T130 HR0.out x10_1 p487 q487; cases e487
            replace hx487_0 := hs HB.out hx487_0; replace hx487_1 := hs HB.out hx487_1; replace p487 := eq_true p487; replace q487 := eq_true q487
            go_wp2_with (first | ((with_reducible refine gate_dst (N := 4) rfl ?_); refine bx (N := 4) (cs := #[.string (⟨#[]⟩ : ByteArray), .string (⟨#[]⟩ : ByteArray)]) (t := 130) ?_; intro gb488 hg w17 hbox hb; have BK488 := aM (hbox); have GE488 := aM (gw (w := w) hg); replace HB := aM (bS (bl) hb); clear hb hbox hg; have hz18 := bc2 BK488) | (go_at_call 115; (with_reducible refine (tags_good.calls ((rd_T130 l0 x10_1).f0) ((rd_T130 l0 x10_1).f1) true _ A6.out).mono ?_); rintro e w19 ⟨rfl, hb⟩; replace BK488 := aM (kB (g := gb488) (o := .cells #[.string ((rd_T130 l0 x10_1).f0), .string ((rd_T130 l0 x10_1).f1)] 130 (0, 0)) (bk BK488) hb); replace HB := aM (bS (bl) hb); (try clear hb); have hz20 := bc2 BK488; have p490 : 0 ≤ ((ji9) : Int) := of_decide_eq_true (by first | (with_reducible assumption) | assumption); have q490 : (ji9) < (l0.length : Int) := of_decide_eq_true (by first | (with_reducible assumption) | assumption); obtain ⟨ad490, e490, hx490_0, hx490_1⟩ := at_T130 HR0.out (ji9) p490 q490; obtain rfl : ad487 = ad490 := (by injection e490); replace hx490_0 := (HB.out.cell (World.block_lt_of_cell? w _ hx490_0)).trans hx490_0; replace hx490_1 := (HB.out.cell (World.block_lt_of_cell? w _ hx490_1)).trans hx490_1; replace p490 := eq_true p490; replace q490 := eq_true q490))
            repeat (go_quiet (first | ((with_reducible refine gate_dst (N := 4) rfl ?_); refine bx (N := 4) (cs := #[.string (⟨#[]⟩ : ByteArray), .string (⟨#[]⟩ : ByteArray)]) (t := 130) ?_; intro gb488 hg w17 hbox hb; have BK488 := aM (hbox); have GE488 := aM (gw (w := w) hg); replace HB := aM (bS (bl) hb); clear hb hbox hg; have hz18 := bc2 BK488) | (go_at_call 115; (with_reducible refine (tags_good.calls ((rd_T130 l0 x10_1).f0) ((rd_T130 l0 x10_1).f1) true _ A6.out).mono ?_); rintro e w19 ⟨rfl, hb⟩; replace BK488 := aM (kB (g := gb488) (o := .cells #[.string ((rd_T130 l0 x10_1).f0), .string ((rd_T130 l0 x10_1).f1)] 130 (0, 0)) (bk BK488) hb); replace HB := aM (bS (bl) hb); (try clear hb); have hz20 := bc2 BK488; have p490 : 0 ≤ ((ji9) : Int) := of_decide_eq_true (by first | (with_reducible assumption) | assumption); have q490 : (ji9) < (l0.length : Int) := of_decide_eq_true (by first | (with_reducible assumption) | assumption); obtain ⟨ad490, e490, hx490_0, hx490_1⟩ := at_T130 HR0.out (ji9) p490 q490; obtain rfl : ad487 = ad490 := (by injection e490); replace hx490_0 := (HB.out.cell (World.block_lt_of_cell? w _ hx490_0)).trans hx490_0; replace hx490_1 := (HB.out.cell (World.block_lt_of_cell? w _ hx490_1)).trans hx490_1; replace p490 := eq_true p490; replace q490 := eq_true q490)); try go_wp2_with (first | ((with_reducible refine gate_dst (N := 4) rfl ?_); refine bx (N := 4) (cs := #[.string (⟨#[]⟩ : ByteArray), .string (⟨#[]⟩ : ByteArray)]) (t := 130) ?_; intro gb488 hg w17 hbox hb; have BK488 := aM (hbox); have GE488 := aM (gw (w := w) hg); replace HB := aM (bS (bl) hb); clear hb hbox hg; have hz18 := bc2 BK488) | (go_at_call 115; (with_reducible refine (tags_good.calls ((rd_T130 l0 x10_1).f0) ((rd_T130 l0 x10_1).f1) true _ A6.out).mono ?_); rintro e w19 ⟨rfl, hb⟩; replace BK488 := aM (kB (g := gb488) (o := .cells #[.string ((rd_T130 l0 x10_1).f0), .string ((rd_T130 l0 x10_1).f1)] 130 (0, 0)) (bk BK488) hb); replace HB := aM (bS (bl) hb); (try clear hb); have hz20 := bc2 BK488; have p490 : 0 ≤ ((ji9) : Int) := of_decide_eq_true (by first | (with_reducible assumption) | assumption); have q490 : (ji9) < (l0.length : Int) := of_decide_eq_true (by first | (with_reducible assumption) | assumption); obtain ⟨ad490, e490, hx490_0, hx490_1⟩ := at_T130 HR0.out (ji9) p490 q490; obtain rfl : ad487 = ad490 := (by injection e490); replace hx490_0 := (HB.out.cell (World.block_lt_of_cell? w _ hx490_0)).trans hx490_0; replace hx490_1 := (HB.out.cell (World.block_lt_of_cell? w _ hx490_1)).trans hx490_1; replace p490 := eq_true p490; replace q490 := eq_true q490)))
            go_ret; exact ⟨by first | rfl | (simp [errW_none, errW_some] <;> rfl) | (simp only [← hji9]; first | rfl | (simp [errW_none, errW_some] <;> rfl)) | (simp [*, errW_none, errW_some] <;> rfl), bl⟩
          ·rw [if_neg c11] at H; exact absurd H (by simp)
         ·rw [if_neg c10] at H; exact absurd H (by simp)
        ·rw [if_neg c8] at H; have c8b0 : decide (0 < x10_1) = false := decide_eq_false c8; clear c8; have H' := aM H; clear H; have p487 : 0 ≤ (x10_1 : Int) := oT; have q487 : x10_1 < (l0.length : Int) := oT; obtain ⟨ad487, e487, hx487_0, hx487_1⟩ := at_T130 HR0.out x10_1 p487 q487; cases e487
         replace hx487_0 := hs HB.out hx487_0; replace hx487_1 := hs HB.out hx487_1; replace p487 := eq_true p487; replace q487 := eq_true q487
         go_wp2_with (first | ((with_reducible refine gate_dst (N := 4) rfl ?_); refine bx (N := 4) (cs := #[.string (⟨#[]⟩ : ByteArray), .string (⟨#[]⟩ : ByteArray)]) (t := 130) ?_; intro gb488 hg w21 hbox hb; have BK488 := aM (hbox); have GE488 := aM (gw (w := w) hg); replace HB := aM (bS (bl) hb); clear hb hbox hg; have hz22 := bc2 BK488) | (go_at_call 115; (with_reducible refine (tags_good.calls ((rd_T130 l0 x10_1).f0) ((rd_T130 l0 x10_1).f1) true _ A6.out).mono ?_); rintro e w23 ⟨rfl, hb⟩; replace BK488 := aM (kB (g := gb488) (o := .cells #[.string ((rd_T130 l0 x10_1).f0), .string ((rd_T130 l0 x10_1).f1)] 130 (0, 0)) (bk BK488) hb); replace HB := aM (bS (bl) hb); (try clear hb)))
         repeat (go_quiet (first | ((with_reducible refine gate_dst (N := 4) rfl ?_); refine bx (N := 4) (cs := #[.string (⟨#[]⟩ : ByteArray), .string (⟨#[]⟩ : ByteArray)]) (t := 130) ?_; intro gb488 hg w21 hbox hb; have BK488 := aM (hbox); have GE488 := aM (gw (w := w) hg); replace HB := aM (bS (bl) hb); clear hb hbox hg; have hz22 := bc2 BK488) | (go_at_call 115; (with_reducible refine (tags_good.calls ((rd_T130 l0 x10_1).f0) ((rd_T130 l0 x10_1).f1) true _ A6.out).mono ?_); rintro e w23 ⟨rfl, hb⟩; replace BK488 := aM (kB (g := gb488) (o := .cells #[.string ((rd_T130 l0 x10_1).f0), .string ((rd_T130 l0 x10_1).f1)] 130 (0, 0)) (bk BK488) hb); replace HB := aM (bS (bl) hb); (try clear hb))); try go_wp2_with (first | ((with_reducible refine gate_dst (N := 4) rfl ?_); refine bx (N := 4) (cs := #[.string (⟨#[]⟩ : ByteArray), .string (⟨#[]⟩ : ByteArray)]) (t := 130) ?_; intro gb488 hg w21 hbox hb; have BK488 := aM (hbox); have GE488 := aM (gw (w := w) hg); replace HB := aM (bS (bl) hb); clear hb hbox hg; have hz22 := bc2 BK488) | (go_at_call 115; (with_reducible refine (tags_good.calls ((rd_T130 l0 x10_1).f0) ((rd_T130 l0 x10_1).f1) true _ A6.out).mono ?_); rintro e w23 ⟨rfl, hb⟩; replace BK488 := aM (kB (g := gb488) (o := .cells #[.string ((rd_T130 l0 x10_1).f0), .string ((rd_T130 l0 x10_1).f1)] 130 (0, 0)) (bk BK488) hb); replace HB := aM (bS (bl) hb); (try clear hb))))
         go_roundg k1
         case measure => have := HK1.out; omega
         case rel => exact ⟨(wrap64 (x10_1 + 1)), (by first | rfl | (simp; done) | (simp [*]; done)), H', ⟨by have := HK1.out; omega⟩, ⟨bl⟩⟩
       ·replace c7 := Bool.eq_false_iff.mpr c7; subst c7; have H1 : (some 10) = some r := by rw [if_neg (show ¬ (false = true) by decide)] at H; exact H
        clear H; have H := H1; clear H1; obtain rfl := Option.some.inj H; have p487 : 0 ≤ (x10_1 : Int) := oT; have q487 : x10_1 < (l0.length : Int) := oT; obtain ⟨ad487, e487, hx487_0, hx487_1⟩ := at_T130 HR0.out x10_1 p487 q487; cases e487
        replace hx487_0 := hs HB.out hx487_0; replace hx487_1 := hs HB.out hx487_1; replace p487 := eq_true p487; replace q487 := eq_true q487
        go_wp2_with (first | ((with_reducible refine gate_dst (N := 4) rfl ?_); refine bx (N := 4) (cs := #[.string (⟨#[]⟩ : ByteArray), .string (⟨#[]⟩ : ByteArray)]) (t := 130) ?_; intro gb488 hg w24 hbox hb; have BK488 := aM (hbox); have GE488 := aM (gw (w := w) hg); replace HB := aM (bS (bl) hb); clear hb hbox hg; have hz25 := bc2 BK488) | (go_at_call 115; (with_reducible refine (tags_good.calls ((rd_T130 l0 x10_1).f0) ((rd_T130 l0 x10_1).f1) false _ A6.out).mono ?_); rintro e w26 ⟨rfl, hb⟩; replace BK488 := aM (kB (g := gb488) (o := .cells #[.string ((rd_T130 l0 x10_1).f0), .string ((rd_T130 l0 x10_1).f1)] 130 (0, 0)) (bk BK488) hb); replace HB := aM (bS (bl) hb); (try clear hb)))
        repeat (go_quiet (first | ((with_reducible refine gate_dst (N := 4) rfl ?_); refine bx (N := 4) (cs := #[.string (⟨#[]⟩ : ByteArray), .string (⟨#[]⟩ : ByteArray)]) (t := 130) ?_; intro gb488 hg w24 hbox hb; have BK488 := aM (hbox); have GE488 := aM (gw (w := w) hg); replace HB := aM (bS (bl) hb); clear hb hbox hg; have hz25 := bc2 BK488) | (go_at_call 115; (with_reducible refine (tags_good.calls ((rd_T130 l0 x10_1).f0) ((rd_T130 l0 x10_1).f1) false _ A6.out).mono ?_); rintro e w26 ⟨rfl, hb⟩; replace BK488 := aM (kB (g := gb488) (o := .cells #[.string ((rd_T130 l0 x10_1).f0), .string ((rd_T130 l0 x10_1).f1)] 130 (0, 0)) (bk BK488) hb); replace HB := aM (bS (bl) hb); (try clear hb))); try go_wp2_with (first | ((with_reducible refine gate_dst (N := 4) rfl ?_); refine bx (N := 4) (cs := #[.string (⟨#[]⟩ : ByteArray), .string (⟨#[]⟩ : ByteArray)]) (t := 130) ?_; intro gb488 hg w24 hbox hb; have BK488 := aM (hbox); have GE488 := aM (gw (w := w) hg); replace HB := aM (bS (bl) hb); clear hb hbox hg; have hz25 := bc2 BK488) | (go_at_call 115; (with_reducible refine (tags_good.calls ((rd_T130 l0 x10_1).f0) ((rd_T130 l0 x10_1).f1) false _ A6.out).mono ?_); rintro e w26 ⟨rfl, hb⟩; replace BK488 := aM (kB (g := gb488) (o := .cells #[.string ((rd_T130 l0 x10_1).f0), .string ((rd_T130 l0 x10_1).f1)] 130 (0, 0)) (bk BK488) hb); replace HB := aM (bS (bl) hb); (try clear hb))))
        go_ret; exact ⟨by first | rfl | (simp [errW_none, errW_some] <;> rfl) | (simp [*, errW_none, errW_some] <;> rfl), bl⟩
      ·rw [if_neg c5] at H; exact absurd H (by simp)
     ·rw [if_neg c4] at H; exact absurd H (by simp)
    ·rw [if_neg c3] at H; have c3b0 : decide (x10_1 < (l0.length : Int)) = false := decide_eq_false c3; clear c3; obtain rfl := Option.some.inj H
     go_wp2
     repeat (go_quiet (fail); try go_wp2)
     go_ret; exact ⟨by first | rfl | (simp [errW_none, errW_some] <;> rfl) | (simp [*, errW_none, errW_some] <;> rfl), bl⟩
section
open Go.Maps (Keyed)
theorem keyed3 : Go.Maps.Keyed Try.prog 3 := Go.Maps.int_keyed Try.underlying3
theorem zero4 (w : World) : (zeroValue 4).run Try.prog w = .ok (.bool false) w := by kernel_rfl
def InI (a : Int) : Prop := (Lit.int .i64 a).wf = true
instance (a : Int) : Decidable (InI a) := by unfold InI; exact inferInstance
theorem plain_bool_inv {P : Program} {e : TypeId} (he : P.underlying e = some .bool) {v : Value} {z : DataW Unit × List MemPlace} (h : plainElem P e v = some z) : ∃ x, v = .bool x ∧ z = (.lit (.bool x), []) := by
 unfold plainElem at h; rw [he] at h
 cases v <;> simp at h
 exact ⟨_, rfl, h.symm⟩
theorem key3 {a : Int} (h : InI a) : keyOf Try.prog 3 (.int .i64 a) = some (.int .i64 a) := by
 have h' : (Lit.int .i64 a).wf = true := h
 simp [keyOf, mapKey, Try.underlying3, h']
def HasIds (w : World) (M : Nat) (ids : List Int) : Prop := ∃ D : DataW Unit, w.ownsMap Try.prog 3 (plainElem Try.prog 4) M ids.length D ∧ Go.Maps.IsMap D ∧ ∀ a, D.atKey (.int .i64 a) (.lit (.bool false)) = .lit (.bool (ids.contains a))
variable {w w' : World} {M : Nat} {ids : List Int}
theorem HasIds.lt (h : HasIds w M ids) : M < w.heap.size := by
 obtain ⟨D, h, _⟩ := h; exact h.lt
theorem HasIds.grown (h : HasIds w M ids) {row : Option Nat} (hg : w.grownBy w' row) (hne : some M ≠ row) : HasIds w' M ids := by
 obtain ⟨D, h, h1, h2⟩ := h; exact ⟨D, h.kept hg hne, h1, h2⟩
theorem HasIds.below (h : HasIds w M ids) (hb : Below w.heap.size w w') : HasIds w' M ids := h.grown (row := none) ⟨hb.os, hb.tape, hb.output, hb.size, fun i hi _ => hb.block i hi⟩ (by simp)
theorem HasIds.made (w : World) : HasIds (w.alloc (.map #[] 0)) w.heap.size [] := ⟨_, World.ownsMap_made _ _ _ _, Go.Maps.isMap_empty, fun _ => rfl⟩
theorem HasIds.put (h : HasIds w M ids) {a : Int} (ha : InI a) (hn : ids.length < maxLen) : ∃ w', (Instr.mapUpdate 113 (.map (some M)) (.int .i64 a) (.bool true)).run Try.prog w = .ok () w' ∧ HasIds w' M (ids ++ [a]) ∧ w.grownBy w' (some M) := by
 obtain ⟨D, h, h1, h2⟩ := h; obtain ⟨w', hrun, ho, hg⟩ := h.update keyed3 Try.underlying113 hn (key3 ha) (plainElem_bool Try.underlying4 true); refine ⟨w', hrun, ⟨_, by rw [List.length_append]; exact ho, h1.put _ _, fun b => ?_⟩, hg⟩
 by_cases e : b = a
 ·subst e; rw [Go.Maps.atKey_put_same h1 (keyed3.key (key3 ha))]
  simp
 ·rw [Go.Maps.atKey_put_other (fun e2 => e (Lit.int.inj e2).2), h2 b]; have : (ids ++ [a]).contains b = ids.contains b := by simp [e]
  rw [this]
theorem HasIds.look (h : HasIds w M ids) {a : Int} (ha : InI a) : (Instr.lookup 113 (.map (some M)) (.int .i64 a) false).run Try.prog w = .ok (.bool (ids.contains a)) w := by
 obtain ⟨D, h, h1, h2⟩ := h; obtain ⟨v, ps, hrun, hv⟩ := h.lookup keyed3 Try.underlying113 (zero4 w) (plainElem_bool Try.underlying4 false) (key3 ha); rw [h2 a] at hv; obtain ⟨x, rfl, hx⟩ := plain_bool_inv Try.underlying4 hv; have e := (Lit.bool.inj (DataW.lit.inj (Prod.mk.inj hx).1)); rw [hrun, e]
end
def idsF (p : Int → Int) (i : Int) : Int := if p i < 1 then 2 else if p i > 2147483647 then 2 else if i > 0 then (if p (i - 1) ≥ p i then 6 else 0) else 0
set_option maxHeartbeats 4000000 in
set_option maxRecDepth 100000 in
theorem ids97 (p : Int → Int) (g : Nat) (lb : Array Value) (eg : ∀ args w, (callFunc g args).run Try.prog w = .ok (.enter g args) w) (i : Int) (w : World) (hi0 : 0 ≤ i) (hi1 : i ≤ 9223372036854775807)
  (hp : ∀ j, j = i ∨ 0 < i ∧ j = i - 1 → Calls Try.prog g (#[.int .i64 j] ++ lb) w fun e w' => e = .returned (.int .i64 (p j)) ∧ w' = w) :
  Calls Try.prog 97 #[.int .i64 i, .func (.func g) #[] lb] w fun e w' => e = .returned (.int .i64 (idsF p i)) ∧ w' = w := by
 have H1 := aM (hp i (.inl rfl)); have H2 := aM (fun h : 0 < i => hp (i - 1) (.inr ⟨h, rfl⟩)); clear hp; obtain ⟨r, hr⟩ : ∃ r, r = idsF p i := ⟨_, rfl⟩; rw [← hr]; unfold idsF at hr; generalize p i = a at H1 hr; generalize p (i - 1) = b at H2 hr
 by_cases c1 : a < 1
 ·rw [if_pos c1] at hr; subst hr; have e1 : decide (a < 1) = true := decide_eq_true c1; clear c1; go_enter Try.func97, Try.ntmps97
  go_wp2_with (first | (go_at_fn g; refine H1.out.mono ?_; rintro e w' ⟨rfl, rfl⟩) | go_in)
  go_ret; exact ⟨rfl, rfl⟩
 ·rw [if_neg c1] at hr; have e1 : decide (a < 1) = false := decide_eq_false c1; clear c1
  by_cases c2 : a > 2147483647
  ·rw [if_pos c2] at hr; subst hr; have e2 : decide (a > 2147483647) = true := decide_eq_true c2; clear c2; go_enter Try.func97, Try.ntmps97
   go_wp2_with (first | (go_at_fn g; refine H1.out.mono ?_; rintro e w' ⟨rfl, rfl⟩) | go_in)
   go_ret; exact ⟨rfl, rfl⟩
  ·rw [if_neg c2] at hr; have e2 : decide (a > 2147483647) = false := decide_eq_false c2; clear c2
   by_cases c3 : i > 0
   ·rw [if_pos c3] at hr; have e3 : decide (i > 0) = true := decide_eq_true c3; have H3 := aM (H2.out c3); have hw : IntKind.i64.wrap (i - 1) = i - 1 := by rw [IntKind.wrap_i64]; omega
    clear c3 H2
    by_cases c4 : b ≥ a
    ·rw [if_pos c4] at hr; subst hr; have e4 : decide (b ≥ a) = true := decide_eq_true c4; clear c4; go_enter Try.func97, Try.ntmps97
     go_wp2_with (first | (go_at_fn g; refine H1.out.mono ?_; rintro e w' ⟨rfl, rfl⟩) | (go_at_fn g; refine H3.out.mono ?_; rintro e w' ⟨rfl, rfl⟩) | go_in)
     go_ret; exact ⟨rfl, rfl⟩
    ·rw [if_neg c4] at hr; subst hr; have e4 : decide (b ≥ a) = false := decide_eq_false c4; clear c4; go_enter Try.func97, Try.ntmps97
     go_wp2_with (first | (go_at_fn g; refine H1.out.mono ?_; rintro e w' ⟨rfl, rfl⟩) | (go_at_fn g; refine H3.out.mono ?_; rintro e w' ⟨rfl, rfl⟩) | go_in)
     go_ret; exact ⟨rfl, rfl⟩
   ·rw [if_neg c3] at hr; subst hr; have e3 : decide (i > 0) = false := decide_eq_false c3; clear c3 H2; go_enter Try.func97, Try.ntmps97
    go_wp2_with (first | (go_at_fn g; refine H1.out.mono ?_; rintro e w' ⟨rfl, rfl⟩) | go_in)
    go_ret; exact ⟨rfl, rfl⟩
set_option maxHeartbeats 4000000 in
set_option maxRecDepth 100000 in
theorem closure98 (A1_0 : Option Addr) (c1_0 : Nat) (l1_0 : List S53) (A1_1 : Option Addr) (c1_1 : Nat) (l1_1 : List S56) (A1_2 : Option Addr) (c1_2 : Nat) (l1_2 : List S59) (M1 M2 : Value) (B : Nat) (w : World)
  (hB : w.heap[B]? = some (.cells #[.slice A1_0 l1_0.length c1_0, .slice A1_1 l1_1.length c1_1, .slice A1_2 l1_2.length c1_2, M1, M2] 115 (0, 0))) (hr : Kd.C k53 w A1_0 l1_0.length l1_0) (j : Int) (h0 : 0 ≤ j) (h1 : j < (l1_0.length : Int)) :
  Calls Try.prog 98 (#[.int .i64 j] ++ #[.pointer (some ⟨B, 0, none⟩)]) w fun e w' => e = .returned (.int .i64 (rd_T53 l1_0 j).f0) ∧ w' = w := by
 have hu115 := Try.underlying115; have hu26 := Try.underlying26; have hu53 := Try.underlying53; have hb := hr.2.1; obtain ⟨ad, A3, c3, e0, hx0, hx1, hx2, hx3, hl3, hi3⟩ := at_T53 hr j h0 h1; cases e0
 have hc : w.cell? ⟨B, 0, none⟩ = some (.slice (some ad) l1_0.length c1_0) := (kC hB 0).trans rfl; have hf := kF hB 0; obtain ⟨n, rfl⟩ := Int.eq_ofNat_of_zero_le h0; rw [Int.toNat_natCast] at hx0 hx1 hx2 hx3; clear hB hr hl3 hi3; generalize (rd_T53 l1_0 (n : Int)) = x at hx0 hx1 hx2 hx3 ⊢
 show Calls Try.prog 98 #[.int .i64 (n : Int), .pointer (some ⟨B, 0, none⟩)] w _
 go_enter Try.func98, Try.ntmps98
 go_wp2
 go_ret; exact ⟨rfl, rfl⟩
def data_ids_by_data_checker_checkNodes_1.f (a0 : Int) (l1_0 : List S53) (l1_1 : List S56) (l1_2 : List S59) : Option Int := if 0 ≤ a0 then (if a0 < (l1_0.length : Int) then some (idsF (fun j => (rd_T53 l1_0 j).f0) a0) else none) else none
theorem data_ids_by_data_checker_checkNodes_1.callsB (B : Nat) (M1 M2 : Nat) (a0 : Int) (A1_0 : Option Addr) (c1_0 : Nat) (l1_0 : List S53) (A1_1 : Option Addr) (c1_1 : Nat) (l1_1 : List S56) (A1_2 : Option Addr) (c1_2 : Nat) (l1_2 : List S59) (r : Int) (w : World)
  (hr1_0 : Kd.C k53 w A1_0 l1_0.length l1_0) (hc1_0 : l1_0.length ≤ c1_0) (hr1_1 : Kd.C k56 w A1_1 l1_1.length l1_1) (hc1_1 : l1_1.length ≤ c1_1) (hr1_2 : Kd.C k59 w A1_2 l1_2.length l1_2) (hc1_2 : l1_2.length ≤ c1_2)
  (hB : w.heap[B]? = some (.cells #[.slice A1_0 l1_0.length c1_0, .slice A1_1 l1_1.length c1_1, .slice A1_2 l1_2.length c1_2, .map (some M1), .map (some M2)] 115 (0, 0))) (h : data_ids_by_data_checker_checkNodes_1.f a0 l1_0 l1_1 l1_2 = some r) :
  Calls Try.prog 97 #[.int .i64 a0, .func (.func 98) #[] #[.pointer (some ⟨B, 0, none⟩)]] w fun e w' => e = .returned (.int .i64 r) ∧ Below w.heap.size w w' := by
 unfold data_ids_by_data_checker_checkNodes_1.f at h
 split at h
 case isFalse => cases h
 split at h
 case isFalse => cases h
 rename_i h0 h1
 obtain rfl := Option.some.inj h; have eg : ∀ args w, (callFunc 98 args).run Try.prog w = .ok (.enter 98 args) w := enters_of Try.func98 (by kernel_rfl) rfl; have hb := hr1_0.2.1; refine (ids97 (fun j => (rd_T53 l1_0 j).f0) 98 #[.pointer (some ⟨B, 0, none⟩)] eg a0 w h0 (by omega) (fun j hj => closure98 A1_0 c1_0 l1_0 A1_1 c1_1 l1_1 A1_2 c1_2 l1_2 (.map (some M1)) (.map (some M2)) B w hB hr1_0 j (by omega) (by omega))).mono ?_; rintro e w' ⟨rfl, rfl⟩; exact ⟨rfl, Below.refl _ _⟩
end Go.Proofs.Ytefambkodalomaa.PAll
