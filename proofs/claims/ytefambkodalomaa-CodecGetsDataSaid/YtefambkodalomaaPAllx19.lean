-- out of a driver of this session's prover over the kit's print: Lean checks it
import Derived.Test.YtefambkodalomaaPAllx0
namespace Go.Proofs.Ytefambkodalomaa.PAll
open Go.Proofs.YtefambkodalomaaG Go.Shelf Go.Lib
open Go.RowKit Go.Proofs.YtefambkodalomaaW.PrintWords Go.Proofs.YtefambkodalomaaW.PrintLast Go.Proofs.YtefambkodalomaaW.PrintMore
attribute [local go_sem] max2_int min2_int max_two min_two max_three min_three max_four min_four   -- for this text's walks alone
set_option linter.unusedVariables false
set_option linter.unusedSimpArgs false
mutual
def mapmakerref02_next.j1 : Nat → ByteArray → Int → Option (Int × Int × Int)
 | 0, _, _ => none
 | k + 1, x5, x6 => if x6 = 10 then (some (0, 0, 4)) else (if x6 = (x5.size : Int) then (some (0, 0, 3)) else (if x6 = 9 then (if 9 < (x5.size : Int) then (if (bt x5 9) > 1 then (mapmakerref02_next.j2 k x5 x6 true) else (if x6 > 0 then (if 0 ≤ x6 then (if x6 < (x5.size : Int) then (mapmakerref02_next.j2 k x5 x6 ((bt x5 x6) == 0)) else (none)) else (none)) else (mapmakerref02_next.j2 k x5 x6 false))) else (none)) else (if x6 > 0 then (if 0 ≤ x6 then (if x6 < (x5.size : Int) then (mapmakerref02_next.j2 k x5 x6 ((bt x5 x6) == 0)) else (none)) else (none)) else (mapmakerref02_next.j2 k x5 x6 false))))
def mapmakerref02_next.j2 : Nat → ByteArray → Int → Bool → Option (Int × Int × Int)
 | 0, _, _, _ => none
 | k + 1, x5, x6, x52 => if x52 = true then (some (0, 0, 4)) else (mapmakerref02_next.l1 k x5 x6 0 x6)
def mapmakerref02_next.l1 : Nat → ByteArray → Int → Int → Int → Option (Int × Int × Int)
 | 0, _, _, _, _ => none
 | k + 1, x5, x6, x7, x8 => if x8 ≥ 0 then (if 0 ≤ x8 then (if x8 < (x5.size : Int) then (mapmakerref02_next.l1 k x5 x6 (IntKind.u64.wrap ((IntKind.u64.wrap (x7 * 128)) + (Int.tmod (IntKind.u64.wrap (bt x5 x8)) 128))) (wrap64 (x8 - 1))) else (none)) else (none)) else (some (x7, wrap64 (x6 + 1), 0))
def mapmakerref02_next.l0 : Nat → ByteArray → Int → Option (Int × Int × Int)
 | 0, _, _ => none
 | k + 1, x5, x6 => if x6 < 10 then (if x6 < (x5.size : Int) then (if 0 ≤ x6 then (if (bt x5 x6) ≥ 128 then (mapmakerref02_next.l0 k x5 (wrap64 (x6 + 1))) else (mapmakerref02_next.j1 k x5 x6)) else (none)) else (mapmakerref02_next.j1 k x5 x6)) else (mapmakerref02_next.j1 k x5 x6)
end
def mapmakerref02_next.f (k : Nat) (a0_0 : ByteArray) (a0_1 : Int) (a0_2 : Int) : Option (Int × Int × Int) := if 0 ≤ a0_1 then (if a0_1 ≤ (a0_0.size : Int) then (mapmakerref02_next.l0 k (a0_0.extract (a0_1 : Int).toNat a0_0.size) 0) else (none)) else (none)
theorem mapmakerref02_next.mono_l : ∀ k, (∀ y0 y1, LeO (mapmakerref02_next.j1 k y0 y1) (mapmakerref02_next.j1 (k + 1) y0 y1)) ∧ (∀ y0 y1 y2, LeO (mapmakerref02_next.j2 k y0 y1 y2) (mapmakerref02_next.j2 (k + 1) y0 y1 y2)) ∧ (∀ y0 y1 y2 y3, LeO (mapmakerref02_next.l1 k y0 y1 y2 y3) (mapmakerref02_next.l1 (k + 1) y0 y1 y2 y3)) ∧ (∀ y0 y1, LeO (mapmakerref02_next.l0 k y0 y1) (mapmakerref02_next.l0 (k + 1) y0 y1))
 | 0 => ⟨fun _ _ r h => by simp [mapmakerref02_next.j1] at h, fun _ _ _ r h => by simp [mapmakerref02_next.j2] at h, fun _ _ _ _ r h => by simp [mapmakerref02_next.l1] at h, fun _ _ r h => by simp [mapmakerref02_next.l0] at h⟩
 | k + 1 => by
  obtain ⟨ih0, ih1, ih2, ih3⟩ := mapmakerref02_next.mono_l k
  refine ⟨?_, ?_, ?_, ?_⟩
  ·intro y0 y1
   unfold mapmakerref02_next.j1
   repeat' first
   | (with_reducible exact ih0 _ _)
   | (with_reducible exact ih1 _ _ _)
   | (with_reducible exact ih2 _ _ _ _)
   | (with_reducible exact ih3 _ _)
   | (with_reducible exact LeO.refl _)
   | (with_reducible exact LeO.none _)
   | (with_reducible refine LeO.ite ?_ ?_)
   | (with_reducible refine LeO.eB ?_ (fun _ => ?_))
   | (with_reducible refine LeO.bind ?_ (fun _ => ?_))
   | exact ih0 _ _
   | exact ih1 _ _ _
   | exact ih2 _ _ _ _
   | exact ih3 _ _
   | exact LeO.none _
   | refine LeO.ite ?_ ?_
   | refine LeO.bind ?_ (fun _ => ?_)
  ·intro y0 y1 y2
   unfold mapmakerref02_next.j2
   repeat' first
   | (with_reducible exact ih0 _ _)
   | (with_reducible exact ih1 _ _ _)
   | (with_reducible exact ih2 _ _ _ _)
   | (with_reducible exact ih3 _ _)
   | (with_reducible exact LeO.refl _)
   | (with_reducible exact LeO.none _)
   | (with_reducible refine LeO.ite ?_ ?_)
   | (with_reducible refine LeO.eB ?_ (fun _ => ?_))
   | (with_reducible refine LeO.bind ?_ (fun _ => ?_))
   | exact ih0 _ _
   | exact ih1 _ _ _
   | exact ih2 _ _ _ _
   | exact ih3 _ _
   | exact LeO.none _
   | refine LeO.ite ?_ ?_
   | refine LeO.bind ?_ (fun _ => ?_)
  ·intro y0 y1 y2 y3
   unfold mapmakerref02_next.l1
   repeat' first
   | (with_reducible exact ih0 _ _)
   | (with_reducible exact ih1 _ _ _)
   | (with_reducible exact ih2 _ _ _ _)
   | (with_reducible exact ih3 _ _)
   | (with_reducible exact LeO.refl _)
   | (with_reducible exact LeO.none _)
   | (with_reducible refine LeO.ite ?_ ?_)
   | (with_reducible refine LeO.eB ?_ (fun _ => ?_))
   | (with_reducible refine LeO.bind ?_ (fun _ => ?_))
   | exact ih0 _ _
   | exact ih1 _ _ _
   | exact ih2 _ _ _ _
   | exact ih3 _ _
   | exact LeO.none _
   | refine LeO.ite ?_ ?_
   | refine LeO.bind ?_ (fun _ => ?_)
  ·intro y0 y1
   unfold mapmakerref02_next.l0
   repeat' first
   | (with_reducible exact ih0 _ _)
   | (with_reducible exact ih1 _ _ _)
   | (with_reducible exact ih2 _ _ _ _)
   | (with_reducible exact ih3 _ _)
   | (with_reducible exact LeO.refl _)
   | (with_reducible exact LeO.none _)
   | (with_reducible refine LeO.ite ?_ ?_)
   | (with_reducible refine LeO.eB ?_ (fun _ => ?_))
   | (with_reducible refine LeO.bind ?_ (fun _ => ?_))
   | exact ih0 _ _
   | exact ih1 _ _ _
   | exact ih2 _ _ _ _
   | exact ih3 _ _
   | exact LeO.none _
   | refine LeO.ite ?_ ?_
   | refine LeO.bind ?_ (fun _ => ?_)
theorem mapmakerref02_next.mono : ∀ a0 a1 a2 k, LeO (mapmakerref02_next.f k a0 a1 a2) (mapmakerref02_next.f (k + 1) a0 a1 a2) := by
 intro a0 a1 a2 k; obtain ⟨ih0, ih1, ih2, ih3⟩ := mapmakerref02_next.mono_l k; unfold mapmakerref02_next.f
 repeat' first
   | (with_reducible exact ih0 _ _)
   | (with_reducible exact ih1 _ _ _)
   | (with_reducible exact ih2 _ _ _ _)
   | (with_reducible exact ih3 _ _)
   | (with_reducible exact LeO.refl _)
   | (with_reducible exact LeO.none _)
   | (with_reducible refine LeO.ite ?_ ?_)
   | (with_reducible refine LeO.eB ?_ (fun _ => ?_))
   | (with_reducible refine LeO.bind ?_ (fun _ => ?_))
   | exact ih0 _ _
   | exact ih1 _ _ _
   | exact ih2 _ _ _ _
   | exact ih3 _ _
   | exact LeO.none _
   | refine LeO.ite ?_ ?_
   | refine LeO.bind ?_ (fun _ => ?_)
set_option maxHeartbeats 8000000 in
set_option maxRecDepth 100000 in
theorem mapmakerref02_next.calls (k : Nat) (a0_0 : ByteArray) (a0_1 : Int) (a0_2 : Int) (r1 : Int) (r2 : Int) (r3 : Int) (w : World) (h : mapmakerref02_next.f k a0_0 a0_1 a0_2 = some (r1, r2, r3)) :
  Calls Try.prog 89 #[.agg #[.string a0_0, .int .i64 a0_1, .int .i64 a0_2]] w fun e w' => e = .returned (.tuple #[.int .u64 r1, .int .i64 r2, .int .i64 r3]) ∧ Below w.heap.size w w' := by
 have hu88 := Try.underlying88; have HB := aM (Below.refl w.heap.size w); have H : (if 0 ≤ a0_1 then (if a0_1 ≤ (a0_0.size : Int) then (mapmakerref02_next.l0 k (a0_0.extract (a0_1 : Int).toNat a0_0.size) 0) else (none)) else (none)) = some (r1, r2, r3) := h; clear h
 by_cases c2 : 0 ≤ a0_1
 ·rw [if_pos c2] at H; have c2b0 := eq_true c2; have c2b1 : decide (0 ≤ a0_1) = true := decide_eq_true c2; clear c2
  by_cases c3 : a0_1 ≤ (a0_0.size : Int)
  ·rw [if_pos c3] at H; have c3b0 := eq_true c3; have c3b1 : decide (a0_1 ≤ (a0_0.size : Int)) = true := decide_eq_true c3; clear c3; have HC4 := aM H; clear H; go_enter Try.func89, Try.ntmps89
   go_upto_block 0 with (first | ((with_reducible refine gate_dst (N := 1) rfl ?_); (try (refine gate_guard (by rfl) ?_; dsimp only)); refine bx (N := 1) (cs := #[.string a0_0, .int .i64 a0_1, .int .i64 a0_2]) (t := 88) ?_; intro gb559 hg w5 hbox hb; have BK559 := aM (hbox); have GE559 := aM (gw (w := w) hg); replace HB := aM (bS (bl) hb); clear hb hbox hg; have hz6 := bc3 BK559))
   (try simp only [Act.put, sA, sB, sC])
   generalize (a0_0.extract (a0_1 : Int).toNat a0_0.size) = Y_ at HC4 ⊢
   go_cut [6] (fun v6 wc => ∃ (kq : Nat) (x6_3 : Int), v6 = .int .i64 x6_3 ∧ Aside0 (mapmakerref02_next.j1 kq Y_ x6_3 = some (r1, r2, r3)) ∧ Aside0 (kq ≤ k) ∧ Aside0 (Below w.heap.size w wc))
   case first =>
    have H := HC4.out; clear HC4; have H' := aM H; clear H
    go_wp2
    go_loopg [6] k (fun kq v6 w' => ∃ (x6_1 : Int), v6 = .int .i64 x6_1 ∧ Aside0 (mapmakerref02_next.l0 kq Y_ x6_1 = some (r1, r2, r3)) ∧ Aside0 (kq ≤ k) ∧ Aside0 (w'.heap[gb559]? = some (.cells #[.string a0_0, .int .i64 a0_1, .int .i64 a0_2] 88 (0, 0))) ∧ Aside0 (Below w.heap.size w w'))
    case atStart => exact ⟨(0), (by first | rfl | (simp; done) | (simp [*]; done)), H', ⟨Nat.le_refl _⟩, ⟨kl BK559⟩, ⟨bl⟩⟩
    case round =>
     clear H'; (try clear c2); (try clear c2b0); (try clear c2b1); (try clear c3); (try clear c3b0); (try clear c3b1); (try clear hz6); obtain ⟨x6_1, rfl, HA, HK1, BK559, HB⟩ := hrel
     cases gk with
     | zero => exact absurd HA.out (by simp [mapmakerref02_next.l0])
     | succ k1 =>
      have H := HA.out; clear HA; simp only [mapmakerref02_next.l0] at H
      by_cases c7 : x6_1 < 10
      ·rw [if_pos c7] at H; have c7b0 : decide (x6_1 < 10) = true := decide_eq_true c7; clear c7
       (first | rw [c7b0] | (simp only [i64_w, i32_w]; rw [c7b0]) | skip)
       by_cases c8 : x6_1 < (Y_.size : Int)
       ·rw [if_pos c8] at H; have c8b0 : decide (x6_1 < (Y_.size : Int)) = true := decide_eq_true c8; clear c8
        by_cases c9 : 0 ≤ x6_1
        ·rw [if_pos c9] at H; have c9b0 : decide (0 ≤ x6_1) = true := decide_eq_true c9; clear c9
         by_cases c11 : (bt Y_ x6_1) ≥ 128
         ·rw [if_pos c11] at H; have c11b0 : decide (128 ≤ (bt Y_ x6_1)) = true := decide_eq_true c11; clear c11; have H' := aM H; clear H; have p10 : 0 ≤ (x6_1 : Int) := oT; have q10 : x6_1 < (Y_.size : Int) := oT; have hx10 := bt_at Y_ x6_1; replace p10 := eq_true p10; replace q10 := eq_true q10
          go_wp2
          go_roundg k1
          case measure => have := HK1.out; omega
          case rel => exact ⟨(wrap64 (x6_1 + 1)), (by first | rfl | (simp; done) | (simp [*]; done)), H', ⟨by have := HK1.out; omega⟩, ⟨kl BK559⟩, ⟨bl⟩⟩
         ·rw [if_neg c11] at H; have c11b0 : decide (128 ≤ (bt Y_ x6_1)) = false := decide_eq_false c11; clear c11; have H' := aM H; clear H; have p10 : 0 ≤ (x6_1 : Int) := oT; have q10 : x6_1 < (Y_.size : Int) := oT; have hx10 := bt_at Y_ x6_1; replace p10 := eq_true p10; replace q10 := eq_true q10
          go_wp2
          go_meet
          case rel => exact ⟨_, (x6_1), (by first | rfl | (simp; done) | (simp [*]; done)), H', ⟨by have := HK1.out; first | omega | exact Nat.le_refl _⟩, ⟨bl⟩⟩
        ·rw [if_neg c9] at H; exact absurd H (by simp)
       ·rw [if_neg c8] at H; have c8b0 : decide (x6_1 < (Y_.size : Int)) = false := decide_eq_false c8; clear c8; have H' := aM H; clear H
        go_wp2
        go_meet
        case rel => exact ⟨_, (x6_1), (by first | rfl | (simp; done) | (simp [*]; done)), H', ⟨by have := HK1.out; first | omega | exact Nat.le_refl _⟩, ⟨bl⟩⟩
      ·rw [if_neg c7] at H; have c7b0 : decide (x6_1 < 10) = false := decide_eq_false c7; clear c7
       (first | rw [c7b0] | (simp only [i64_w, i32_w]; rw [c7b0]) | skip)
       have H' := aM H; clear H
       go_wp2
       go_meet
       case rel => exact ⟨_, (x6_1), (by first | rfl | (simp; done) | (simp [*]; done)), H', ⟨by have := HK1.out; first | omega | exact Nat.le_refl _⟩, ⟨bl⟩⟩
   case rest =>
    clear HC4; (try clear c2); (try clear c2b0); (try clear c2b1); (try clear c3); (try clear c3b0); (try clear c3b1); (try clear c7); (try clear c7b0); (try clear c8); (try clear c8b0); (try clear c9); (try clear c9b0); (try clear p10); (try clear q10); (try clear hx10); (try clear c11); (try clear c11b0); (try clear hz6); (try clear p10); (try clear q10); obtain ⟨kq, x6_3, rfl, HA, HJ3, HB⟩ := hcut
    cases kq with
    | zero => exact absurd HA.out (by simp [mapmakerref02_next.j1])
    | succ kj3 =>
     have H := HA.out; clear HA; simp only [mapmakerref02_next.j1] at H
     by_cases c12 : x6_3 = 10
     ·rw [if_pos c12] at H; have c12b0 : (x6_3 == 10) = true := beq_iff_eq.mpr c12; have c12b1 : (x6_3 != 10) = false := bne_eq_false_iff_eq.mpr c12; clear c12; simp only [Option.some.injEq, Prod.mk.injEq] at H; obtain ⟨rfl, rfl, rfl⟩ := H
      go_wp2
      go_ret3
      exact ⟨by first | rfl | (simp [errW_none, errW_some] <;> rfl) | (simp [*, errW_none, errW_some] <;> rfl), bl⟩
     ·rw [if_neg c12] at H; have c12b0 : (x6_3 == 10) = false := beq_eq_false_iff_ne.mpr c12; have c12b1 : (x6_3 != 10) = true := bne_iff_ne.mpr c12
      by_cases c13 : x6_3 = (Y_.size : Int)
      ·rw [if_pos c13] at H; have c13b0 : (x6_3 == (Y_.size : Int)) = true := beq_iff_eq.mpr c13; have c13b1 : (x6_3 != (Y_.size : Int)) = false := bne_eq_false_iff_eq.mpr c13; clear c13; simp only [Option.some.injEq, Prod.mk.injEq] at H; obtain ⟨rfl, rfl, rfl⟩ := H
       go_wp2
       go_ret3
       exact ⟨by first | rfl | (simp [errW_none, errW_some] <;> rfl) | (simp [*, errW_none, errW_some] <;> rfl), bl⟩
      ·rw [if_neg c13] at H; have c13b0 : (x6_3 == (Y_.size : Int)) = false := beq_eq_false_iff_ne.mpr c13; have c13b1 : (x6_3 != (Y_.size : Int)) = true := bne_iff_ne.mpr c13; have HC14 := aM H; clear H
       go_upto_region 9 with (fail)
       go_cut [52] (fun v52 wc => ∃ (kq : Nat) (x52_13 : Bool), v52 = .bool x52_13 ∧ Aside0 (mapmakerref02_next.j2 kq Y_ x6_3 x52_13 = some (r1, r2, r3)) ∧ Aside0 (kq ≤ kj3) ∧ Aside0 (Below w.heap.size w wc))
       case first =>
        have H := HC14.out; clear HC14
        by_cases c15 : x6_3 = 9
        ·rw [if_pos c15] at H; have c15b0 : (x6_3 == 9) = true := beq_iff_eq.mpr c15; have c15b1 : (x6_3 != 9) = false := bne_eq_false_iff_eq.mpr c15; clear c15
         (first | rw [c15b0] | (simp only [i64_w, i32_w]; rw [c15b0]) | skip)
         by_cases c16 : 9 < (Y_.size : Int)
         ·rw [if_pos c16] at H; have c16b0 : decide (9 < (Y_.size : Int)) = true := decide_eq_true c16; have c16b1 : decide (9 < Y_.size) = true := decide_eq_true (by omega); clear c16
          by_cases c18 : (bt Y_ 9) > 1
          ·rw [if_pos c18] at H; have c18b0 : decide (1 < (bt Y_ 9)) = true := decide_eq_true c18; clear c18; have H' := aM H; clear H; have p17 : 0 ≤ (9 : Int) := (by omega); have q17 : 9 < Y_.size := (by have : (9 : Int) < (Y_.size : Int) := of_decide_eq_true (by first | (with_reducible assumption) | assumption); omega); have hx17 : ∀ h : 9 < Y_.size, ((Y_[9]'h).toNat : Int) = bt Y_ 9 := bt_at Y_ 9; clear p17; have qi17 : (9 < (Y_.size : Int)) = True := eq_true (of_decide_eq_true (by first | (with_reducible assumption) | assumption)); replace q17 := eq_true q17
           go_wp2
           go_meet
           case rel => exact ⟨_, (true), (by first | rfl | (simp; done) | (simp [*]; done)), H', ⟨by have := HJ3.out; first | omega | exact Nat.le_refl _⟩, ⟨bl⟩⟩
          ·rw [if_neg c18] at H; have c18b0 : decide (1 < (bt Y_ 9)) = false := decide_eq_false c18; clear c18
           by_cases c19 : x6_3 > 0
           ·rw [if_pos c19] at H; have c19b0 : decide (0 < x6_3) = true := decide_eq_true c19; clear c19
            by_cases c20 : 0 ≤ x6_3
            ·rw [if_pos c20] at H; have c20b0 : decide (0 ≤ x6_3) = true := decide_eq_true c20; clear c20
             by_cases c21 : x6_3 < (Y_.size : Int)
             ·rw [if_pos c21] at H; have c21b0 : decide (x6_3 < (Y_.size : Int)) = true := decide_eq_true c21; clear c21; have H' := aM H; clear H; have p17 : 0 ≤ (9 : Int) := (by omega); have q17 : 9 < Y_.size := (by have : (9 : Int) < (Y_.size : Int) := of_decide_eq_true (by first | (with_reducible assumption) | assumption); omega); have hx17 : ∀ h : 9 < Y_.size, ((Y_[9]'h).toNat : Int) = bt Y_ 9 := bt_at Y_ 9; clear p17; have qi17 : (9 < (Y_.size : Int)) = True := eq_true (of_decide_eq_true (by first | (with_reducible assumption) | assumption)); replace q17 := eq_true q17; have p22 : 0 ≤ (x6_3 : Int) := oT; have q22 : x6_3 < (Y_.size : Int) := oT; have hx22 := bt_at Y_ x6_3; replace p22 := eq_true p22; replace q22 := eq_true q22
              go_wp2
              go_meet
              case rel => exact ⟨_, (((bt Y_ x6_3) == 0)), (by first | rfl | (simp; done) | (simp [*]; done)), H', ⟨by have := HJ3.out; first | omega | exact Nat.le_refl _⟩, ⟨bl⟩⟩
             ·rw [if_neg c21] at H; exact absurd H (by simp)
            ·rw [if_neg c20] at H; exact absurd H (by simp)
           ·rw [if_neg c19] at H; have c19b0 : decide (0 < x6_3) = false := decide_eq_false c19; clear c19; have H' := aM H; clear H; have p17 : 0 ≤ (9 : Int) := (by omega); have q17 : 9 < Y_.size := (by have : (9 : Int) < (Y_.size : Int) := of_decide_eq_true (by first | (with_reducible assumption) | assumption); omega); have hx17 : ∀ h : 9 < Y_.size, ((Y_[9]'h).toNat : Int) = bt Y_ 9 := bt_at Y_ 9; clear p17; have qi17 : (9 < (Y_.size : Int)) = True := eq_true (of_decide_eq_true (by first | (with_reducible assumption) | assumption)); replace q17 := eq_true q17
            go_wp2
            go_meet
            case rel => exact ⟨_, (false), (by first | rfl | (simp; done) | (simp [*]; done)), H', ⟨by have := HJ3.out; first | omega | exact Nat.le_refl _⟩, ⟨bl⟩⟩
         ·rw [if_neg c16] at H; exact absurd H (by simp)
        ·rw [if_neg c15] at H; have c15b0 : (x6_3 == 9) = false := beq_eq_false_iff_ne.mpr c15; have c15b1 : (x6_3 != 9) = true := bne_iff_ne.mpr c15
         (first | rw [c15b0] | (simp only [i64_w, i32_w]; rw [c15b0]) | skip)
         by_cases c23 : x6_3 > 0
         ·rw [if_pos c23] at H; have c23b0 : decide (0 < x6_3) = true := decide_eq_true c23; clear c23
          by_cases c24 : 0 ≤ x6_3
          ·rw [if_pos c24] at H; have c24b0 : decide (0 ≤ x6_3) = true := decide_eq_true c24; clear c24
           by_cases c25 : x6_3 < (Y_.size : Int)
           ·rw [if_pos c25] at H; have c25b0 : decide (x6_3 < (Y_.size : Int)) = true := decide_eq_true c25; clear c25; have H' := aM H; clear H; have p26 : 0 ≤ (x6_3 : Int) := oT; have q26 : x6_3 < (Y_.size : Int) := oT; have hx26 := bt_at Y_ x6_3; replace p26 := eq_true p26; replace q26 := eq_true q26
            go_wp2
            go_meet
            case rel => exact ⟨_, (((bt Y_ x6_3) == 0)), (by first | rfl | (simp; done) | (simp [*]; done)), H', ⟨by have := HJ3.out; first | omega | exact Nat.le_refl _⟩, ⟨bl⟩⟩
           ·rw [if_neg c25] at H; exact absurd H (by simp)
          ·rw [if_neg c24] at H; exact absurd H (by simp)
         ·rw [if_neg c23] at H; have c23b0 : decide (0 < x6_3) = false := decide_eq_false c23; clear c23; have H' := aM H; clear H
          go_wp2
          go_meet
          case rel => exact ⟨_, (false), (by first | rfl | (simp; done) | (simp [*]; done)), H', ⟨by have := HJ3.out; first | omega | exact Nat.le_refl _⟩, ⟨bl⟩⟩
       case rest =>
        clear HC14; (try clear c2); (try clear c2b0); (try clear c2b1); (try clear c3); (try clear c3b0); (try clear c3b1); (try clear c7); (try clear c7b0); (try clear c8); (try clear c8b0); (try clear c9); (try clear c9b0); (try clear p10); (try clear q10); (try clear hx10); (try clear c11); (try clear c11b0); (try clear c12); (try clear c12b0); (try clear c12b1); (try clear c13); (try clear c13b0); (try clear c13b1); (try clear c15); (try clear c15b0); (try clear c15b1); (try clear c16); (try clear c16b0); (try clear c16b1); (try clear p17); (try clear q17); (try clear hx17); (try clear qi17); (try clear c18); (try clear c18b0); (try clear c19); (try clear c19b0); (try clear c20); (try clear c20b0); (try clear c21); (try clear c21b0); (try clear p22); (try clear q22); (try clear hx22); (try clear c23); (try clear c23b0); (try clear c24); (try clear c24b0); (try clear c25); (try clear c25b0); (try clear p26); (try clear q26); (try clear hx26); (try clear hz6); (try clear p10); (try clear p17); (try clear p22); (try clear p26); (try clear q10); (try clear q17); (try clear q22); (try clear q26); obtain ⟨kq, x52_13, rfl, HA, HJ13, HB⟩ := hcut
        cases kq with
        | zero => exact absurd HA.out (by simp [mapmakerref02_next.j2])
        | succ kj13 =>
         have H := HA.out; clear HA; simp only [mapmakerref02_next.j2] at H
         by_cases c27 : x52_13 = true
         ·subst c27; have H1 : (some (0, 0, 4)) = some (r1, r2, r3) := by rw [if_pos rfl] at H; exact H
          clear H; have H := H1; clear H1; simp only [Option.some.injEq, Prod.mk.injEq] at H; obtain ⟨rfl, rfl, rfl⟩ := H
          go_wp2
          go_ret3
          exact ⟨by first | rfl | (simp [errW_none, errW_some] <;> rfl) | (simp [*, errW_none, errW_some] <;> rfl), bl⟩
         ·replace c27 := Bool.eq_false_iff.mpr c27; subst c27; have H1 : (mapmakerref02_next.l1 kj13 Y_ x6_3 0 x6_3) = some (r1, r2, r3) := by rw [if_neg (show ¬ (false = true) by decide)] at H; exact H
          clear H; have H := H1; clear H1; have H' := aM H; clear H
          go_wp2
          go_loopg [7, 8] kj13 (fun kq v7 v8 w' => ∃ (x7_3 : Int) (x8_3 : Int), v7 = .int .u64 x7_3 ∧ v8 = .int .i64 x8_3 ∧ Aside0 (mapmakerref02_next.l1 kq Y_ x6_3 x7_3 x8_3 = some (r1, r2, r3)) ∧ Aside0 (kq ≤ kj13) ∧ Aside0 (Below w.heap.size w w'))
          case atStart => exact ⟨(0), (x6_3), (by first | rfl | (simp; done) | (simp [*]; done)), (by first | rfl | (simp; done) | (simp [*]; done)), H', ⟨Nat.le_refl _⟩, ⟨bl⟩⟩
          case round =>
           clear H'; (try clear c2); (try clear c2b0); (try clear c2b1); (try clear c3); (try clear c3b0); (try clear c3b1); (try clear c7); (try clear c7b0); (try clear c8); (try clear c8b0); (try clear c9); (try clear c9b0); (try clear p10); (try clear q10); (try clear hx10); (try clear c11); (try clear c11b0); (try clear c12); (try clear c12b0); (try clear c12b1); (try clear c13); (try clear c13b0); (try clear c13b1); (try clear c15); (try clear c15b0); (try clear c15b1); (try clear c16); (try clear c16b0); (try clear c16b1); (try clear p17); (try clear q17); (try clear hx17); (try clear qi17); (try clear c18); (try clear c18b0); (try clear c19); (try clear c19b0); (try clear c20); (try clear c20b0); (try clear c21); (try clear c21b0); (try clear p22); (try clear q22); (try clear hx22); (try clear c23); (try clear c23b0); (try clear c24); (try clear c24b0); (try clear c25); (try clear c25b0); (try clear p26); (try clear q26); (try clear hx26); (try clear c27); (try clear hz6); (try clear p10); (try clear p17); (try clear p22); (try clear p26); (try clear q10); (try clear q17); (try clear q22); (try clear q26); obtain ⟨x7_3, x8_3, rfl, rfl, HA, HK3, HB⟩ := hrel
           cases gk with
           | zero => exact absurd HA.out (by simp [mapmakerref02_next.l1])
           | succ k3 =>
            have H := HA.out; clear HA; simp only [mapmakerref02_next.l1] at H
            by_cases c28 : x8_3 ≥ 0
            ·rw [if_pos c28] at H; have c28b0 : decide (0 ≤ x8_3) = true := decide_eq_true c28; clear c28
             by_cases c29 : 0 ≤ x8_3
             ·rw [if_pos c29] at H; have c29b0 : decide (0 ≤ x8_3) = true := decide_eq_true c29; clear c29
              by_cases c30 : x8_3 < (Y_.size : Int)
              ·rw [if_pos c30] at H; have c30b0 : decide (x8_3 < (Y_.size : Int)) = true := decide_eq_true c30; clear c30; have H' := aM H; clear H; have p31 : 0 ≤ (x8_3 : Int) := oT; have q31 : x8_3 < (Y_.size : Int) := oT; have hx31 := bt_at Y_ x8_3; replace p31 := eq_true p31; replace q31 := eq_true q31
               go_wp2
               go_roundg k3
               case measure => have := HJ3.out; have := HJ13.out; have := HK3.out; omega
               case rel => exact ⟨(IntKind.u64.wrap ((IntKind.u64.wrap (x7_3 * 128)) + (Int.tmod (IntKind.u64.wrap (bt Y_ x8_3)) 128))), (wrap64 (x8_3 - 1)), (by first | rfl | (simp; done) | (simp [*]; done)), (by first | rfl | (simp; done) | (simp [*]; done)), H', ⟨by have := HJ3.out; have := HJ13.out; have := HK3.out; omega⟩, ⟨bl⟩⟩
              ·rw [if_neg c30] at H; exact absurd H (by simp)
             ·rw [if_neg c29] at H; exact absurd H (by simp)
            ·rw [if_neg c28] at H; have c28b0 : decide (0 ≤ x8_3) = false := decide_eq_false c28; clear c28; simp only [Option.some.injEq, Prod.mk.injEq] at H; obtain ⟨rfl, rfl, rfl⟩ := H
             go_wp2
             go_ret3
             exact ⟨by first | rfl | (simp [errW_none, errW_some] <;> rfl) | (simp [*, errW_none, errW_some] <;> rfl), bl⟩
  ·rw [if_neg c3] at H; exact absurd H (by simp)
 ·rw [if_neg c2] at H; exact absurd H (by simp)
def mapmakerref02_Count.j0 : Nat → Int → Int → Int → Bool → ByteArray → Int → Int → Option (ByteArray × Int × Int × Int)
 | 0, _, _, _, _, _, _, _ => none
 | k + 1, x6, x7, x8, x27, x561000, x561001, x561002 => if x27 = true then (if 5 = 0 then (some (x561000, wrap64 (x561001 + x7), 0, wrap64 (x6))) else (some (x561000, x561001, 5, 0))) else (if x8 = 0 then (some (x561000, wrap64 (x561001 + x7), 0, wrap64 (x6))) else (some (x561000, x561001, x8, 0)))
def mapmakerref02_Count.f (k : Nat) (a0_0 : ByteArray) (a0_1 : Int) (a0_2 : Int) (a1 : Int) : Option (ByteArray × Int × Int × Int) := if a0_2 = 0 then ((mapmakerref02_next.f k a0_0 a0_1 a0_2).bind fun bt562 => (if bt562.2.2 = 0 then (mapmakerref02_Count.j0 k bt562.1 bt562.2.1 bt562.2.2 (decide (bt562.1 > (IntKind.u64.wrap (mx a1 0)))) a0_0 a0_1 a0_2) else (mapmakerref02_Count.j0 k bt562.1 bt562.2.1 bt562.2.2 false a0_0 a0_1 a0_2))) else (some (a0_0, a0_1, a0_2, 0))
theorem mapmakerref02_Count.mono_l : ∀ k, (∀ y0 y1 y2 y3 y4 y5 y6, LeO (mapmakerref02_Count.j0 k y0 y1 y2 y3 y4 y5 y6) (mapmakerref02_Count.j0 (k + 1) y0 y1 y2 y3 y4 y5 y6))
 | 0 => fun _ _ _ _ _ _ _ r h => by simp [mapmakerref02_Count.j0] at h
 | k + 1 => by
  have ih0 := mapmakerref02_Count.mono_l k
  ·intro y0 y1 y2 y3 y4 y5 y6
   unfold mapmakerref02_Count.j0
   repeat' first
   | (with_reducible exact ih0 _ _ _ _ _ _ _)
   | (with_reducible exact mapmakerref02_next.mono _ _ _ _)
   | (with_reducible exact LeO.refl _)
   | (with_reducible exact LeO.none _)
   | (with_reducible refine LeO.ite ?_ ?_)
   | (with_reducible refine LeO.eB ?_ (fun _ => ?_))
   | (with_reducible refine LeO.bind ?_ (fun _ => ?_))
   | exact ih0 _ _ _ _ _ _ _
   | exact mapmakerref02_next.mono _ _ _ _
   | exact LeO.none _
   | refine LeO.ite ?_ ?_
   | refine LeO.bind ?_ (fun _ => ?_)
theorem mapmakerref02_Count.mono : ∀ a0 a1 a2 a3 k, LeO (mapmakerref02_Count.f k a0 a1 a2 a3) (mapmakerref02_Count.f (k + 1) a0 a1 a2 a3) := by
 intro a0 a1 a2 a3 k; have ih0 := mapmakerref02_Count.mono_l k; unfold mapmakerref02_Count.f
 repeat' first
   | (with_reducible exact ih0 _ _ _ _ _ _ _)
   | (with_reducible exact mapmakerref02_next.mono _ _ _ _)
   | (with_reducible exact LeO.refl _)
   | (with_reducible exact LeO.none _)
   | (with_reducible refine LeO.ite ?_ ?_)
   | (with_reducible refine LeO.eB ?_ (fun _ => ?_))
   | (with_reducible refine LeO.bind ?_ (fun _ => ?_))
   | exact ih0 _ _ _ _ _ _ _
   | exact mapmakerref02_next.mono _ _ _ _
   | exact LeO.none _
   | refine LeO.ite ?_ ?_
   | refine LeO.bind ?_ (fun _ => ?_)
set_option maxHeartbeats 8000000 in
set_option maxRecDepth 100000 in
theorem mapmakerref02_Count.calls (k : Nat) (a0_0 : ByteArray) (a0_1 : Int) (a0_2 : Int) (a1 : Int) (r1 : ByteArray) (r2 : Int) (r3 : Int) (r4 : Int) (w : World) (h : mapmakerref02_Count.f k a0_0 a0_1 a0_2 a1 = some (r1, r2, r3, r4)) :
  Calls Try.prog 41 #[.agg #[.string a0_0, .int .i64 a0_1, .int .i64 a0_2], .int .i64 a1] w fun e w' => e = .returned (.tuple #[.agg #[.string r1, .int .i64 r2, .int .i64 r3], .int .i64 r4]) ∧ Below w.heap.size w w' := by
 have hu88 := Try.underlying88; have HB := aM (Below.refl w.heap.size w); have H : (if a0_2 = 0 then ((mapmakerref02_next.f k a0_0 a0_1 a0_2).bind fun bt562 => (if bt562.2.2 = 0 then (mapmakerref02_Count.j0 k bt562.1 bt562.2.1 bt562.2.2 (decide (bt562.1 > (IntKind.u64.wrap (mx a1 0)))) a0_0 a0_1 a0_2) else (mapmakerref02_Count.j0 k bt562.1 bt562.2.1 bt562.2.2 false a0_0 a0_1 a0_2))) else (some (a0_0, a0_1, a0_2, 0))) = some (r1, r2, r3, r4) := h; clear h
 by_cases c3 : a0_2 = 0
 ·rw [if_pos c3] at H; have c3b0 : (a0_2 == 0) = true := beq_iff_eq.mpr c3; have c3b1 : (a0_2 != 0) = false := bne_eq_false_iff_eq.mpr c3; clear c3; replace H := Option.bind_eq_some_iff.mp H; obtain ⟨⟨t562, t563, t564⟩, A40, H⟩ := H; replace H : (if t564 = 0 then (mapmakerref02_Count.j0 k t562 t563 t564 (decide (t562 > (IntKind.u64.wrap (mx a1 0)))) a0_0 a0_1 a0_2) else (mapmakerref02_Count.j0 k t562 t563 t564 false a0_0 a0_1 a0_2)) = some (r1, r2, r3, r4) := H; have A4 := aM A40; clear A40; have HC5 := aM H; clear H; go_enter Try.func41, Try.ntmps41
  go_upto_region 4 with (first | ((with_reducible refine gate_dst (N := 2) rfl ?_); (try (refine gate_guard (by rfl) ?_; dsimp only)); refine bx (N := 2) (cs := #[.string a0_0, .int .i64 a0_1, .int .i64 a0_2]) (t := 88) ?_; intro gb560 hg w6 hbox hb; have BK560 := aM (hbox); have GE560 := aM (gw (w := w) hg); replace HB := aM (bS (bl) hb); clear hb hbox hg) | ((with_reducible refine gate_dst (N := 4) rfl ?_); (try (refine gate_guard (by rfl) ?_; dsimp only)); refine bx (N := 4) (cs := #[.string (⟨#[]⟩ : ByteArray), .int .i64 0, .int .i64 0]) (t := 88) ?_; intro gb561 hg w7 hbox hb; have BK561 := aM (hbox); have GE561 := aM (gw (w := w) hg); obtain ⟨NB560_561, NB561_560⟩ := n2 BK560 hg; replace BK560 := aM (kB (kl BK560) hb); replace HB := aM (bS (bl) hb); clear hb hbox hg; have hn8 := nn NB560_561; have hz9 := bc3 BK560) | ((with_reducible refine gate_callee (f := 89) rfl ?_); refine gL (some 15) Try.func89 #[.agg #[.string a0_0, .int .i64 a0_1, .int .i64 a0_2]] ?_; (with_reducible refine (mapmakerref02_next.calls k a0_0 a0_1 a0_2 t562 t563 t564 _ A4.out).mono ?_); rintro e w10 ⟨rfl, hb⟩; refine ⟨_, rfl, ?_⟩; replace BK560 := aM (kB (kl BK560) hb); replace BK561 := aM (kB (kl BK561) hb); replace HB := aM (bS (bl) hb); (try clear hb)))
  (try simp only [Act.put, sA, sB, sC])
  go_cut [27] (fun v27 wc => ∃ (kq : Nat) (x27_4 : Bool), v27 = .bool x27_4 ∧ Aside0 (mapmakerref02_Count.j0 kq t562 t563 t564 x27_4 a0_0 a0_1 a0_2 = some (r1, r2, r3, r4)) ∧ Aside0 (kq ≤ k) ∧ Aside0 (wc.heap[gb560]? = some (.cells #[.string a0_0, .int .i64 a0_1, .int .i64 a0_2] 88 (0, 0))) ∧ Aside0 (wc.heap[gb561]? = some (.cells #[.string (⟨#[]⟩ : ByteArray), .int .i64 0, .int .i64 0] 88 (0, 0))) ∧ Aside0 (Below w.heap.size w wc))
  case first =>
   have H := HC5.out; clear HC5
   by_cases c11 : t564 = 0
   ·rw [if_pos c11] at H; have c11b0 : (t564 == 0) = true := beq_iff_eq.mpr c11; have c11b1 : (t564 != 0) = false := bne_eq_false_iff_eq.mpr c11; clear c11
    (first | rw [c11b0] | (simp only [i64_w, i32_w]; rw [c11b0]) | skip)
    obtain ⟨ji12, hji12⟩ : ∃ j_ : Int, (mx a1 0) = j_ := ⟨_, rfl⟩; replace H : (mapmakerref02_Count.j0 k t562 t563 t564 (decide (t562 > (IntKind.u64.wrap (ji12)))) a0_0 a0_1 a0_2) = some (r1, r2, r3, r4) := by first | (rw [hji12] at H; exact H) | (simp only [hji12] at H ⊢; exact H)
    (try (have hji12l : 0 ≤ ji12 := by (rw [← hji12]; unfold mx; (repeat' split) <;> omega)))
    (try (have hji12m : 0 ≤ ji12 := by omega))
    have hji12_ : (if a1 < 0 then 0 else a1) = ji12 := hji12; have H' := aM H; clear H
    go_wp2
    go_meet
    case rel => exact ⟨_, (decide (t562 > (IntKind.u64.wrap (ji12)))), (by first | rfl | (simp; done) | (simp only [← hji12] <;> (first | rfl | simp)) | (simp [*]; done)), H', ⟨by first | omega | exact Nat.le_refl _⟩, ⟨kl BK560⟩, ⟨kl BK561⟩, ⟨bl⟩⟩
   ·rw [if_neg c11] at H; have c11b0 : (t564 == 0) = false := beq_eq_false_iff_ne.mpr c11; have c11b1 : (t564 != 0) = true := bne_iff_ne.mpr c11
    (first | rw [c11b0] | (simp only [i64_w, i32_w]; rw [c11b0]) | skip)
    have H' := aM H; clear H
    go_wp2
    go_meet
    case rel => exact ⟨_, (false), (by first | rfl | (simp; done) | (simp [*]; done)), H', ⟨by first | omega | exact Nat.le_refl _⟩, ⟨kl BK560⟩, ⟨kl BK561⟩, ⟨bl⟩⟩
  case rest =>
   clear HC5; (try clear c3); (try clear c3b0); (try clear c3b1); (try clear c11); (try clear c11b0); (try clear c11b1); (try clear hz9); obtain ⟨kq, x27_4, rfl, HA, HJ4, BK560, BK561, HB⟩ := hcut
   cases kq with
   | zero => exact absurd HA.out (by simp [mapmakerref02_Count.j0])
   | succ kj4 =>
    have H := HA.out; clear HA; simp only [mapmakerref02_Count.j0] at H
    by_cases c13 : x27_4 = true
    ·subst c13; have H1 : (if 5 = 0 then (some (a0_0, wrap64 (a0_1 + t563), 0, wrap64 (t562))) else (some (a0_0, a0_1, 5, 0))) = some (r1, r2, r3, r4) := by rw [if_pos rfl] at H; exact H
     clear H; have H := H1; clear H1
     by_cases c14 : 5 = 0
     ·exact absurd c14 (by decide)
     ·rw [if_neg c14] at H; have c14b0 : (5 == 0) = false := beq_eq_false_iff_ne.mpr c14; have c14b1 : (5 != 0) = true := bne_iff_ne.mpr c14; simp only [Option.some.injEq, Prod.mk.injEq] at H; obtain ⟨rfl, rfl, rfl, rfl⟩ := H; have hn18 := nn NB560_561; have hz19 := bc3 BK560; have hz20 := bc3 BK561
      go_wp2
      refine bodyPost_ret (results_ct rfl _ _ gb561 88 #[.string a0_0, .int .i64 a0_1, .int .i64 5] (0, 0) _ rfl (bk BK561) Try.underlying88 rfl (by kernel_rfl)) rfl ?_; exact ⟨by first | rfl | (simp [errW_none, errW_some] <;> rfl) | (simp [*, errW_none, errW_some] <;> rfl), bl⟩
    ·replace c13 := Bool.eq_false_iff.mpr c13; subst c13; have H1 : (if t564 = 0 then (some (a0_0, wrap64 (a0_1 + t563), 0, wrap64 (t562))) else (some (a0_0, a0_1, t564, 0))) = some (r1, r2, r3, r4) := by rw [if_neg (show ¬ (false = true) by decide)] at H; exact H
     clear H; have H := H1; clear H1
     by_cases c21 : t564 = 0
     ·rw [if_pos c21] at H; have c21b0 : (t564 == 0) = true := beq_iff_eq.mpr c21; have c21b1 : (t564 != 0) = false := bne_eq_false_iff_eq.mpr c21; clear c21; simp only [Option.some.injEq, Prod.mk.injEq] at H; obtain ⟨rfl, rfl, rfl, rfl⟩ := H; have hn22 := nn NB560_561; have hz23 := bc3 BK560; have hz24 := bc3 BK561
      go_wp2
      refine bodyPost_ret (results_ct rfl _ _ gb561 88 #[.string a0_0, .int .i64 (wrap64 (a0_1 + t563)), .int .i64 0] (0, 0) _ rfl (bk BK561) Try.underlying88 rfl (by kernel_rfl)) rfl ?_; exact ⟨by first | rfl | (simp [errW_none, errW_some] <;> rfl) | (simp [*, errW_none, errW_some] <;> rfl), bl⟩
     ·rw [if_neg c21] at H; have c21b0 : (t564 == 0) = false := beq_eq_false_iff_ne.mpr c21; have c21b1 : (t564 != 0) = true := bne_iff_ne.mpr c21; simp only [Option.some.injEq, Prod.mk.injEq] at H; obtain ⟨rfl, rfl, rfl, rfl⟩ := H; have hn25 := nn NB560_561; have hz26 := bc3 BK560; have hz27 := bc3 BK561
      go_wp2
      refine bodyPost_ret (results_ct rfl _ _ gb561 88 #[.string a0_0, .int .i64 a0_1, .int .i64 t564] (0, 0) _ rfl (bk BK561) Try.underlying88 rfl (by kernel_rfl)) rfl ?_; exact ⟨by first | rfl | (simp [errW_none, errW_some] <;> rfl) | (simp [*, errW_none, errW_some] <;> rfl), bl⟩
 ·rw [if_neg c3] at H; have c3b0 : (a0_2 == 0) = false := beq_eq_false_iff_ne.mpr c3; have c3b1 : (a0_2 != 0) = true := bne_iff_ne.mpr c3; simp only [Option.some.injEq, Prod.mk.injEq] at H; obtain ⟨rfl, rfl, rfl, rfl⟩ := H; go_enter Try.func41, Try.ntmps41
  go_wp2_with (first | ((with_reducible refine gate_dst (N := 2) rfl ?_); (try (refine gate_guard (by rfl) ?_; dsimp only)); refine bx (N := 2) (cs := #[.string a0_0, .int .i64 a0_1, .int .i64 a0_2]) (t := 88) ?_; intro gb560 hg w28 hbox hb; have BK560 := aM (hbox); have GE560 := aM (gw (w := w) hg); replace HB := aM (bS (bl) hb); clear hb hbox hg) | ((with_reducible refine gate_dst (N := 4) rfl ?_); (try (refine gate_guard (by rfl) ?_; dsimp only)); refine bx (N := 4) (cs := #[.string (⟨#[]⟩ : ByteArray), .int .i64 0, .int .i64 0]) (t := 88) ?_; intro gb561 hg w29 hbox hb; have BK561 := aM (hbox); have GE561 := aM (gw (w := w) hg); obtain ⟨NB560_561, NB561_560⟩ := n2 BK560 hg; replace BK560 := aM (kB (kl BK560) hb); replace HB := aM (bS (bl) hb); clear hb hbox hg; have hn30 := nn NB560_561; have hz31 := bc3 BK560; have hz32 := bc3 BK561))
  refine bodyPost_ret (results_ct rfl _ _ gb561 88 #[.string a0_0, .int .i64 a0_1, .int .i64 a0_2] (0, 0) _ rfl (bk BK561) Try.underlying88 rfl (by kernel_rfl)) rfl ?_; exact ⟨by first | rfl | (simp [errW_none, errW_some] <;> rfl) | (simp [*, errW_none, errW_some] <;> rfl), bl⟩
end Go.Proofs.Ytefambkodalomaa.PAll
