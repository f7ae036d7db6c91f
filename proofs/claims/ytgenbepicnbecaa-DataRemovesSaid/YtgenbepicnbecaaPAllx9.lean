-- out of a driver of this session's prover over the kit's print: Lean checks it
import Derived.Test.YtgenbepicnbecaaPAllx0
import Derived.Test.YtgenbepicnbecaaPAllx6
import Derived.Test.YtgenbepicnbecaaPAllx7
import Derived.Test.YtgenbepicnbecaaPAllx8
namespace Go.Proofs.Ytgenbepicnbecaa.PAll
open Go.Proofs.YtgenbepicnbecaaG Go.Shelf Go.Lib
open Go.RowKit Go.Proofs.YtgenbepicnbecaaW.PrintWords Go.Proofs.YtgenbepicnbecaaW.PrintLast Go.Proofs.YtgenbepicnbecaaW.PrintMore
attribute [local go_sem] max2_int min2_int max_two min_two max_three min_three max_four min_four   -- for this text's walks alone
set_option linter.unusedVariables false
set_option linter.unusedSimpArgs false
mutual
def data_checker_checkRels.l0 : Nat → List (S51) → Int → Int → List (S39) → List (S45) → List (S51) → Option (Int)
 | 0, _, _, _, _, _, _ => none
 | k + 1, x8, x9, x10, x124000, x124001, x124002 => if x10 < x9 then (if 0 ≤ x10 then (if x10 < (x8.length : Int) then ((data_ids_by_data_checker_checkRels_1.f x10 x124000 x124001 x124002).bind fun t126 => (if t126 = 0 then (if (((rd_T51 x8 x10).f1).length : Int) > 200 then (data_checker_checkRels.j1 k x8 x9 x10 true x124000 x124001 x124002 ((rd_T51 x8 x10).f0) ((rd_T51 x8 x10).f1) ((rd_T51 x8 x10).f2)) else ((api_Member_by_data_checker_checkRels_2.f ((rd_T51 x8 x10).f1)).bind fun t127 => (data_checker_checkRels.j1 k x8 x9 x10 t127 x124000 x124001 x124002 ((rd_T51 x8 x10).f0) ((rd_T51 x8 x10).f1) ((rd_T51 x8 x10).f2)))) else (some t126))) else (none)) else (none)) else (some 0)
def data_checker_checkRels.j1 : Nat → List (S51) → Int → Int → Bool → List (S39) → List (S45) → List (S51) → Int → List (S67) → List (S70) → Option (Int)
 | 0, _, _, _, _, _, _, _, _, _, _ => none
 | k + 1, x8, x9, x10, x24, x124000, x124001, x124002, x126000, x126001, x126002 => if x24 = true then (if 5 = 0 then (data_checker_checkRels.l0 k x8 x9 (wrap64 (x10 + 1)) x124000 x124001 x124002) else (some 5)) else ((api_Member_by_data_checker_missing.f x126001 x124000 x124001 x124002).bind fun t128 => (if t128 = true then (if 9 = 0 then (data_checker_checkRels.l0 k x8 x9 (wrap64 (x10 + 1)) x124000 x124001 x124002) else (some 9)) else ((tags_Check.f k x126002).bind fun t129 => (if t129 = 0 then (data_checker_checkRels.l0 k x8 x9 (wrap64 (x10 + 1)) x124000 x124001 x124002) else (some t129)))))
end
def data_checker_checkRels.f (k : Nat) (l0_0 : List (S39)) (l0_1 : List (S45)) (l0_2 : List (S51)) : Option (Int) := data_checker_checkRels.l0 k l0_2 (l0_2.length : Int) 0 l0_0 l0_1 l0_2
theorem data_checker_checkRels.mono_l : ∀ k, (∀ y0 y1 y2 y3 y4 y5, LeO (data_checker_checkRels.l0 k y0 y1 y2 y3 y4 y5) (data_checker_checkRels.l0 (k + 1) y0 y1 y2 y3 y4 y5)) ∧ (∀ y0 y1 y2 y3 y4 y5 y6 y7 y8 y9, LeO (data_checker_checkRels.j1 k y0 y1 y2 y3 y4 y5 y6 y7 y8 y9) (data_checker_checkRels.j1 (k + 1) y0 y1 y2 y3 y4 y5 y6 y7 y8 y9))
 | 0 => ⟨fun _ _ _ _ _ _ r h => by simp [data_checker_checkRels.l0] at h, fun _ _ _ _ _ _ _ _ _ _ r h => by simp [data_checker_checkRels.j1] at h⟩
 | k + 1 => by
  obtain ⟨ih0, ih1⟩ := data_checker_checkRels.mono_l k
  refine ⟨?_, ?_⟩
  ·intro y0 y1 y2 y3 y4 y5
   unfold data_checker_checkRels.l0
   repeat' first
   | (with_reducible exact ih0 _ _ _ _ _ _)
   | (with_reducible exact ih1 _ _ _ _ _ _ _ _ _ _)
   | (with_reducible exact tags_Check.mono _ _)
   | (with_reducible exact LeO.refl _)
   | (with_reducible exact LeO.none _)
   | (with_reducible refine LeO.ite ?_ ?_)
   | (with_reducible refine LeO.bind ?_ (fun _ => ?_))
   | exact ih0 _ _ _ _ _ _
   | exact ih1 _ _ _ _ _ _ _ _ _ _
   | exact tags_Check.mono _ _
   | exact LeO.none _
   | refine LeO.ite ?_ ?_
   | refine LeO.bind ?_ (fun _ => ?_)
  ·intro y0 y1 y2 y3 y4 y5 y6 y7 y8 y9
   unfold data_checker_checkRels.j1
   repeat' first
   | (with_reducible exact ih0 _ _ _ _ _ _)
   | (with_reducible exact ih1 _ _ _ _ _ _ _ _ _ _)
   | (with_reducible exact tags_Check.mono _ _)
   | (with_reducible exact LeO.refl _)
   | (with_reducible exact LeO.none _)
   | (with_reducible refine LeO.ite ?_ ?_)
   | (with_reducible refine LeO.bind ?_ (fun _ => ?_))
   | exact ih0 _ _ _ _ _ _
   | exact ih1 _ _ _ _ _ _ _ _ _ _
   | exact tags_Check.mono _ _
   | exact LeO.none _
   | refine LeO.ite ?_ ?_
   | refine LeO.bind ?_ (fun _ => ?_)
theorem data_checker_checkRels.mono : ∀ a0 a1 a2 k, LeO (data_checker_checkRels.f k a0 a1 a2) (data_checker_checkRels.f (k + 1) a0 a1 a2) := by
 intro a0 a1 a2 k
 obtain ⟨ih0, ih1⟩ := data_checker_checkRels.mono_l k
 unfold data_checker_checkRels.f
 repeat' first
   | (with_reducible exact ih0 _ _ _ _ _ _)
   | (with_reducible exact ih1 _ _ _ _ _ _ _ _ _ _)
   | (with_reducible exact tags_Check.mono _ _)
   | (with_reducible exact LeO.refl _)
   | (with_reducible exact LeO.none _)
   | (with_reducible refine LeO.ite ?_ ?_)
   | (with_reducible refine LeO.bind ?_ (fun _ => ?_))
   | exact ih0 _ _ _ _ _ _
   | exact ih1 _ _ _ _ _ _ _ _ _ _
   | exact tags_Check.mono _ _
   | exact LeO.none _
   | refine LeO.ite ?_ ?_
   | refine LeO.bind ?_ (fun _ => ?_)
set_option maxHeartbeats 8000000 in
set_option maxRecDepth 100000 in
theorem data_checker_checkRels.calls (k M1 M2 : Nat) (A0_0 : Option Addr) (c0_0 : Nat) (l0_0 : List (S39)) (A0_1 : Option Addr) (c0_1 : Nat) (l0_1 : List (S45)) (A0_2 : Option Addr) (c0_2 : Nat) (l0_2 : List (S51)) (r : Int) (w : World) (hr0_0 : Kd.C k39 w A0_0 l0_0.length l0_0) (hc0_0 : l0_0.length ≤ c0_0) (hr0_1 : Kd.C k45 w A0_1 l0_1.length l0_1) (hc0_1 : l0_1.length ≤ c0_1) (hr0_2 : Kd.C k51 w A0_2 l0_2.length l0_2) (hc0_2 : l0_2.length ≤ c0_2) (hm1 : HasIds w M1 (l0_0.map (fun x => x.f0))) (hm2 : HasIds w M2 (l0_1.map (fun x => x.f0))) (h : data_checker_checkRels.f k l0_0 l0_1 l0_2 = some r) :
  Calls Try.prog 39 #[.agg #[.slice A0_0 l0_0.length c0_0, .slice A0_1 l0_1.length c0_1, .slice A0_2 l0_2.length c0_2, .map (some M1), .map (some M2)]] w fun e w' => e = .returned (.int .i64 r) ∧ Below w.heap.size w w' := by
 have hu26 := Try.underlying26
 have hu51 := Try.underlying51
 have HR0_0 := aM hr0_0
 have HC0_0 := aM hc0_0
 clear hr0_0 hc0_0
 have HR0_1 := aM hr0_1
 have HC0_1 := aM hc0_1
 clear hr0_1 hc0_1
 have HR0_2 := aM hr0_2
 have HC0_2 := aM hc0_2
 clear hr0_2 hc0_2
 have HB := aM (Below.refl w.heap.size w)
 have HM1 := aM hm1
 have HM2 := aM hm2
 clear hm1 hm2
 have hu73 := Try.underlying73
 have H : (data_checker_checkRels.l0 k l0_2 (l0_2.length : Int) 0 l0_0 l0_1 l0_2) = some r := h
 clear h
 have H' := aM H
 clear H
 go_enter Try.func39, Try.ntmps39
 go_wp2_with (first | ((with_reducible refine gate_dst (N := 1) rfl ?_); refine bx (N := 1) (cs := #[.slice A0_0 l0_0.length c0_0, .slice A0_1 l0_1.length c0_1, .slice A0_2 l0_2.length c0_2, .map (some M1), .map (some M2)]) (t := 73) ?_; intro gb123 hg w2 hbox hb; have BK123 := aM (hbox); have GE123 := aM (gw (w := w) hg); replace HB := aM (bS (bl) hb); clear hb hbox hg; have hcz3_0 : w2.cell? ⟨gb123, 0, none⟩ = some (.slice A0_0 l0_0.length c0_0) := (kC BK123.out 0).trans rfl; have hcz3_1 : w2.cell? ⟨gb123, 1, none⟩ = some (.slice A0_1 l0_1.length c0_1) := (kC BK123.out 1).trans rfl; have hcz3_2 : w2.cell? ⟨gb123, 2, none⟩ = some (.slice A0_2 l0_2.length c0_2) := (kC BK123.out 2).trans rfl; have hfz3_0 := kF BK123.out 0; have hfz3_1 := kF BK123.out 1; have hfz3_2 := kF BK123.out 2))
 go_loopg [10] k (fun kq v10 w' => ∃ (x10_1 : Int), v10 = .int .i64 x10_1 ∧ Aside0 (data_checker_checkRels.l0 kq l0_2 (l0_2.length : Int) x10_1 l0_0 l0_1 l0_2 = some r) ∧ Aside0 (kq ≤ k) ∧ Aside0 (w'.heap[gb123]? = some (.cells #[(.slice A0_0 l0_0.length c0_0), (.slice A0_1 l0_1.length c0_1), (.slice A0_2 l0_2.length c0_2), .map (some M1), .map (some M2)] 73 (0, 0))) ∧ Aside0 (Below w.heap.size w w'))
 case atStart => exact ⟨(0), (by first | rfl | (simp; done) | (simp [*]; done)), H', ⟨Nat.le_refl _⟩, ⟨by (with_reducible repeat (first | refine kN ?_ _ | refine kD ?_ | refine kA ?_ _)); exact BK123.out⟩, ⟨bl⟩⟩
 case round =>
  clear H'
  try clear p2
  try clear c3
  try clear hcz3_0 hcz3_1 hcz3_2 hfz3_0 hfz3_1 hfz3_2
  obtain ⟨x10_1, rfl, HA, HK1, BK123, HB⟩ := hrel
  cases gk with
  | zero => exact absurd HA.out (by simp [data_checker_checkRels.l0])
  | succ k1 =>
   have H := HA.out
   clear HA
   simp only [data_checker_checkRels.l0] at H
   by_cases c4 : x10_1 < (l0_2.length : Int)
   ·rw [if_pos c4] at H
    have c4b0 : decide (x10_1 < (l0_2.length : Int)) = true := decide_eq_true c4
    clear c4
    by_cases c5 : 0 ≤ x10_1
    ·rw [if_pos c5] at H
     have c5b0 : decide (0 ≤ x10_1) = true := decide_eq_true c5
     clear c5
     by_cases c6 : x10_1 < (l0_2.length : Int)
     ·rw [if_pos c6] at H
      have c6b0 : decide (x10_1 < (l0_2.length : Int)) = true := decide_eq_true c6
      clear c6
      replace H := Option.bind_eq_some_iff.mp H
      obtain ⟨t126, A70, H⟩ := H
      try dsimp only at H
      have A7 := aM A70
      clear A70
      by_cases c8 : t126 = 0
      ·rw [if_pos c8] at H
       have c8b0 : (t126 == 0) = true := beq_iff_eq.mpr c8
       have c8b1 : (t126 != 0) = false := bne_eq_false_iff_eq.mpr c8
       clear c8
       have HC9 := aM H
       clear H
       have p124 : 0 ≤ (x10_1 : Int) := oT
       have q124 : x10_1 < (l0_2.length : Int) := oT
       obtain ⟨ad124, A124_1, c124_1, A124_2, c124_2, e124, hx124_0, hx124_1, hx124_2, hl124_1, hi124_1, hl124_2, hi124_2⟩ := at_T51 HR0_2.out x10_1 p124 q124
       cases e124
       replace hx124_0 := hs HB.out hx124_0
       replace hx124_1 := hs HB.out hx124_1
       replace hx124_2 := hs HB.out hx124_2
       have HR124_1 := aM hi124_1
       have HC124_1 := aM hl124_1
       clear hi124_1 hl124_1
       have HR124_2 := aM hi124_2
       have HC124_2 := aM hl124_2
       clear hi124_2 hl124_2
       replace p124 := eq_true p124
       replace q124 := eq_true q124
       go_upto_region 7 with (first | ((with_reducible refine gate_dst (N := 4) rfl ?_); refine bx (N := 4) (cs := #[.int .i64 0, .slice none 0 0, .slice none 0 0]) (t := 51) ?_; intro gb125 hg w10 hbox hb; have n0_ := aM (kB (kl BK123) hb); have n1_ := aM (bS (bl) hb); have n2_ := aM (hbox); have n4_ := aM (gw (w := w) hg); have n5_ := aM (nb BK123 hg); have n6_ := aM (nb BK123 hg).symm; (try clear BK123); (try clear HB); have BK123 := n0_; have HB := n1_; have BK125 := n2_; have GE125 := n4_; have NB123_125 := n5_; have NB125_123 := n6_; clear n0_ n1_ n2_ n4_ n5_ n6_ hb hbox hg; have hnb11 := NB125_123.out; have hnc11 := NB123_125.out; obtain ⟨hcz12_0, hcz12_1, hcz12_2, hfz12_0, hfz12_1, hfz12_2⟩ := bc3 BK125; have hcz13_0 : w10.cell? ⟨gb123, 0, none⟩ = some (.slice A0_0 l0_0.length c0_0) := (kC BK123.out 0).trans rfl; have hcz13_1 : w10.cell? ⟨gb123, 1, none⟩ = some (.slice A0_1 l0_1.length c0_1) := (kC BK123.out 1).trans rfl; have hcz13_2 : w10.cell? ⟨gb123, 2, none⟩ = some (.slice (some ad124) l0_2.length c0_2) := (kC BK123.out 2).trans rfl; have hfz13_0 := kF BK123.out 0; have hfz13_1 := kF BK123.out 1; have hfz13_2 := kF BK123.out 2) | ((with_reducible refine gate_callee (f := 69) rfl ?_); refine gL (some 17) Try.func69 #[.int .i64 x10_1, .func (.func 75) #[] #[.pointer (some ⟨gb123, 0, none⟩)]] ?_; (with_reducible refine (data_ids_by_data_checker_checkRels_1.callsB gb123 M1 M2 x10_1 A0_0 c0_0 l0_0 A0_1 c0_1 l0_1 (some ad124) c0_2 l0_2 t126 _ ?side1 ?side2 ?side3 ?side4 ?side5 ?side6 ?sideB A7.out).mono ?_); (case sideB => exact (by (with_reducible repeat (first | refine kN ?_ _ | refine kD ?_ | refine kA ?_ _)); refine blk_far ?_ NB123_125.out _; (with_reducible repeat (first | refine kN ?_ _ | refine kD ?_ | refine kA ?_ _)); refine blk_far ?_ NB123_125.out _; (with_reducible repeat (first | refine kN ?_ _ | refine kD ?_ | refine kA ?_ _)); refine blk_far ?_ NB123_125.out _; (with_reducible repeat (first | refine kN ?_ _ | refine kD ?_ | refine kA ?_ _)); exact BK123.out)); (case side1 => exact Kd.C_below HR0_0.out (bl)); (case side2 => exact HC0_0.out); (case side3 => exact Kd.C_below HR0_1.out (bl)); (case side4 => exact HC0_1.out); (case side5 => exact Kd.C_below HR0_2.out (bl)); (case side6 => exact HC0_2.out); rintro e w14 ⟨rfl, hb⟩; refine ⟨_, rfl, ?_⟩; replace BK123 := aM (kB (g := gb123) (o := .cells #[.slice A0_0 l0_0.length c0_0, .slice A0_1 l0_1.length c0_1, .slice (some ad124) l0_2.length c0_2, .map (some M1), .map (some M2)] 73 (0, 0)) (by (with_reducible repeat (first | refine kN ?_ _ | refine kD ?_ | refine kA ?_ _)); refine blk_far ?_ NB123_125.out _; (with_reducible repeat (first | refine kN ?_ _ | refine kD ?_ | refine kA ?_ _)); refine blk_far ?_ NB123_125.out _; (with_reducible repeat (first | refine kN ?_ _ | refine kD ?_ | refine kA ?_ _)); refine blk_far ?_ NB123_125.out _; (with_reducible repeat (first | refine kN ?_ _ | refine kD ?_ | refine kA ?_ _)); exact BK123.out) hb); replace BK125 := aM (kB (g := gb125) (o := .cells #[.int .i64 ((rd_T51 l0_2 x10_1).f0), .slice A124_1 ((rd_T51 l0_2 x10_1).f1).length c124_1, .slice A124_2 ((rd_T51 l0_2 x10_1).f2).length c124_2] 51 (0, 0)) (by (with_reducible repeat (first | refine kN ?_ _ | refine kD ?_ | refine kA ?_ _)); refine kP (cs := #[.int .i64 ((rd_T51 l0_2 x10_1).f0), .slice A124_1 ((rd_T51 l0_2 x10_1).f1).length c124_1, .slice none 0 0]) ?_ 2 _ rfl; (with_reducible repeat (first | refine kN ?_ _ | refine kD ?_ | refine kA ?_ _)); refine kP (cs := #[.int .i64 ((rd_T51 l0_2 x10_1).f0), .slice none 0 0, .slice none 0 0]) ?_ 1 _ rfl; (with_reducible repeat (first | refine kN ?_ _ | refine kD ?_ | refine kA ?_ _)); refine kP (cs := #[.int .i64 0, .slice none 0 0, .slice none 0 0]) ?_ 0 _ rfl; (with_reducible repeat (first | refine kN ?_ _ | refine kD ?_ | refine kA ?_ _)); exact BK125.out) hb); replace HB := aM (bS (bl) hb); (try clear hb)))
       (try simp only [Act.put, sA, sB, sC])
       go_cut [24] (fun v24 wc => ∃ (kq : Nat) (x24_8 : Bool), v24 = .bool x24_8 ∧ Aside0 (data_checker_checkRels.j1 kq l0_2 (l0_2.length : Int) x10_1 x24_8 l0_0 l0_1 l0_2 ((rd_T51 l0_2 x10_1).f0) ((rd_T51 l0_2 x10_1).f1) ((rd_T51 l0_2 x10_1).f2) = some r) ∧ Aside0 (kq ≤ k1) ∧ Aside0 (wc.heap[gb123]? = some (.cells #[(.slice A0_0 l0_0.length c0_0), (.slice A0_1 l0_1.length c0_1), (.slice (some ad124) l0_2.length c0_2), .map (some M1), .map (some M2)] 73 (0, 0))) ∧ Aside0 (wc.heap[gb125]? = some (.cells #[.int .i64 ((rd_T51 l0_2 x10_1).f0), (.slice A124_1 ((rd_T51 l0_2 x10_1).f1).length c124_1), (.slice A124_2 ((rd_T51 l0_2 x10_1).f2).length c124_2)] 51 (0, 0))) ∧ Aside0 (Below w.heap.size w wc))
       case first =>
        have H := HC9.out
        clear HC9
        by_cases c15 : (((rd_T51 l0_2 x10_1).f1).length : Int) > 200
        ·rw [if_pos c15] at H
         have c15b0 : decide (200 < (((rd_T51 l0_2 x10_1).f1).length : Int)) = true := decide_eq_true c15
         have c15b1 : decide (200 < ((rd_T51 l0_2 x10_1).f1).length) = true := decide_eq_true (by omega)
         clear c15
         (first | rw [c15b0] | (simp only [i64_w, i32_w]; rw [c15b0]) | skip)
         have H' := aM H
         clear H
         have hnb16 := NB125_123.out
         have hnc16 := NB123_125.out
         obtain ⟨hcz17_0, hcz17_1, hcz17_2, hfz17_0, hfz17_1, hfz17_2⟩ := bc3 BK125
         go_wp2
         go_meet
         case rel => exact ⟨_, (true), (by first | rfl | (simp; done) | (simp [*]; done)), H', ⟨by have := HK1.out; first | omega | exact Nat.le_refl _⟩, ⟨by (with_reducible repeat (first | refine kN ?_ _ | refine kD ?_ | refine kA ?_ _)); exact BK123.out⟩, ⟨by (with_reducible repeat (first | refine kN ?_ _ | refine kD ?_ | refine kA ?_ _)); exact BK125.out⟩, ⟨bl⟩⟩
        ·rw [if_neg c15] at H
         have c15b0 : decide (200 < (((rd_T51 l0_2 x10_1).f1).length : Int)) = false := decide_eq_false c15
         have c15b1 : decide (200 < ((rd_T51 l0_2 x10_1).f1).length) = false := decide_eq_false (by omega)
         clear c15
         (first | rw [c15b0] | (simp only [i64_w, i32_w]; rw [c15b0]) | skip)
         replace H := Option.bind_eq_some_iff.mp H
         obtain ⟨t127, A180, H⟩ := H
         try dsimp only at H
         have A18 := aM A180
         clear A180
         have H' := aM H
         clear H
         have hnb19 := NB125_123.out
         have hnc19 := NB123_125.out
         obtain ⟨hcz20_0, hcz20_1, hcz20_2, hfz20_0, hfz20_1, hfz20_2⟩ := bc3 BK125
         go_wp2_with (first | (go_at_call 52; (with_reducible refine (api_Member_by_data_checker_checkRels_2.calls _ _ ((rd_T51 l0_2 x10_1).f1) t127 _ ?side1 ?side2 A18.out).mono ?_); (case side1 => exact cl HR124_1); (case side2 => exact HC124_1.out); rintro e w21 ⟨rfl, hb⟩; replace BK123 := aM (kB (kl BK123) hb); replace BK125 := aM (kB (kl BK125) hb); replace HB := aM (bS (bl) hb); (try clear hb)))
         go_meet
         case rel => exact ⟨_, (t127), (by first | rfl | (simp; done) | (simp [*]; done)), H', ⟨by have := HK1.out; first | omega | exact Nat.le_refl _⟩, ⟨by (with_reducible repeat (first | refine kN ?_ _ | refine kD ?_ | refine kA ?_ _)); exact BK123.out⟩, ⟨by (with_reducible repeat (first | refine kN ?_ _ | refine kD ?_ | refine kA ?_ _)); exact BK125.out⟩, ⟨bl⟩⟩
       case rest =>
        clear HC9
        try clear c1
        try clear p1
        try clear q1
        try clear hx1
        try clear p2
        try clear c3
        try clear c4
        try clear c4b0
        try clear c5
        try clear c5b0
        try clear c6
        try clear c6b0
        try clear c8
        try clear c8b0
        try clear c8b1
        try clear c11
        try clear c12
        try clear p12
        try clear q12
        try clear hx12
        try clear c15
        try clear c15b0
        try clear c15b1
        try clear c16
        try clear c19
        try clear hcz12_0 hcz12_1 hcz12_2 hfz12_0 hfz12_1 hfz12_2
        try clear hcz13_0 hcz13_1 hcz13_2 hfz13_0 hfz13_1 hfz13_2
        try clear hcz17_0 hcz17_1 hcz17_2 hfz17_0 hfz17_1 hfz17_2
        try clear hcz20_0 hcz20_1 hcz20_2 hfz20_0 hfz20_1 hfz20_2
        try clear hcz3_0 hcz3_1 hcz3_2 hfz3_0 hfz3_1 hfz3_2
        try clear hx124_0
        try clear hx124_1
        try clear hx124_2
        try clear p124
        try clear p2
        try clear q124
        obtain ⟨kq, x24_8, rfl, HA, HJ8, BK123, BK125, HB⟩ := hcut
        cases kq with
        | zero => exact absurd HA.out (by simp [data_checker_checkRels.j1])
        | succ kj8 =>
         have H := HA.out
         clear HA
         simp only [data_checker_checkRels.j1] at H
         by_cases c22 : x24_8 = true
         ·subst c22
          have H1 : (if 5 = 0 then (data_checker_checkRels.l0 kj8 l0_2 (l0_2.length : Int) (wrap64 (x10_1 + 1)) l0_0 l0_1 l0_2) else (some 5)) = some r := by rw [if_pos rfl] at H; exact H
          clear H
          have H := H1
          clear H1
          by_cases c23 : 5 = 0
          ·exact absurd c23 (by decide)
          ·rw [if_neg c23] at H
           have c23b0 : (5 == 0) = false := beq_eq_false_iff_ne.mpr c23
           have c23b1 : (5 != 0) = true := bne_iff_ne.mpr c23
           obtain rfl := Option.some.inj H
           go_wp2
           go_ret
           exact ⟨by first | rfl | (simp [errW_none, errW_some] <;> rfl) | (simp [*, errW_none, errW_some] <;> rfl), bl⟩
         ·replace c22 := Bool.eq_false_iff.mpr c22
          subst c22
          have H1 : ((api_Member_by_data_checker_missing.f ((rd_T51 l0_2 x10_1).f1) l0_0 l0_1 l0_2).bind fun t128 => (if t128 = true then (if 9 = 0 then (data_checker_checkRels.l0 kj8 l0_2 (l0_2.length : Int) (wrap64 (x10_1 + 1)) l0_0 l0_1 l0_2) else (some 9)) else ((tags_Check.f kj8 ((rd_T51 l0_2 x10_1).f2)).bind fun t129 => (if t129 = 0 then (data_checker_checkRels.l0 kj8 l0_2 (l0_2.length : Int) (wrap64 (x10_1 + 1)) l0_0 l0_1 l0_2) else (some t129))))) = some r := by rw [if_neg (show ¬ (false = true) by decide)] at H; exact H
          clear H
          have H := H1
          clear H1
          replace H := Option.bind_eq_some_iff.mp H
          obtain ⟨t128, A240, H⟩ := H
          try dsimp only at H
          have A24 := aM A240
          clear A240
          by_cases c25 : t128 = true
          ·subst c25
           have H1 : (if 9 = 0 then (data_checker_checkRels.l0 kj8 l0_2 (l0_2.length : Int) (wrap64 (x10_1 + 1)) l0_0 l0_1 l0_2) else (some 9)) = some r := by rw [if_pos rfl] at H; exact H
           clear H
           have H := H1
           clear H1
           by_cases c26 : 9 = 0
           ·exact absurd c26 (by decide)
           ·rw [if_neg c26] at H
            have c26b0 : (9 == 0) = false := beq_eq_false_iff_ne.mpr c26
            have c26b1 : (9 != 0) = true := bne_iff_ne.mpr c26
            obtain rfl := Option.some.inj H
            have hnb31 := NB125_123.out
            have hnc31 := NB123_125.out
            obtain ⟨hcz32_0, hcz32_1, hcz32_2, hfz32_0, hfz32_1, hfz32_2⟩ := bc3 BK125
            obtain ⟨hcz33_0, hcz33_1, hcz33_2, hcz33_3, hcz33_4, hfz33_0, hfz33_1, hfz33_2, hfz33_3, hfz33_4⟩ := bc5 BK123
            go_wp2_with (first | ((with_reducible refine gate_callee (f := 52) rfl ?_); refine gL (some 39) Try.func52 #[.slice A124_1 ((rd_T51 l0_2 x10_1).f1).length c124_1, .func (.func 77) #[.agg #[.slice A0_0 l0_0.length c0_0, .slice A0_1 l0_1.length c0_1, .slice (some ad124) l0_2.length c0_2, .map (some M1), .map (some M2)]] #[]] ?_; (with_reducible refine (api_Member_by_data_checker_missing.callsB gb123 M1 M2 _ _ ((rd_T51 l0_2 x10_1).f1) A0_0 c0_0 l0_0 A0_1 c0_1 l0_1 (some ad124) c0_2 l0_2 true _ ?side1 ?side2 ?side3 ?side4 ?side5 ?side6 ?side7 ?side8 ?sideB ?sideM1 ?sideM2 A24.out).mono ?_); (case sideB => exact (kl BK123)); (case sideM1 => exact HM1.out.below (bl)); (case sideM2 => exact HM2.out.below (bl)); (case side1 => exact cl HR124_1); (case side2 => exact HC124_1.out); (case side3 => exact cl HR0_0); (case side4 => exact HC0_0.out); (case side5 => exact cl HR0_1); (case side6 => exact HC0_1.out); (case side7 => exact cl HR0_2); (case side8 => exact HC0_2.out); rintro e w34 ⟨rfl, hb⟩; refine ⟨_, rfl, ?_⟩; replace BK123 := aM (kB (kl BK123) hb); replace HB := aM (bS (bl) hb); clear BK125; (try clear hb)))
            go_ret
            exact ⟨by first | rfl | (simp [errW_none, errW_some] <;> rfl) | (simp [*, errW_none, errW_some] <;> rfl), bl⟩
          ·replace c25 := Bool.eq_false_iff.mpr c25
           subst c25
           have H1 : ((tags_Check.f kj8 ((rd_T51 l0_2 x10_1).f2)).bind fun t129 => (if t129 = 0 then (data_checker_checkRels.l0 kj8 l0_2 (l0_2.length : Int) (wrap64 (x10_1 + 1)) l0_0 l0_1 l0_2) else (some t129))) = some r := by rw [if_neg (show ¬ (false = true) by decide)] at H; exact H
           clear H
           have H := H1
           clear H1
           replace H := Option.bind_eq_some_iff.mp H
           obtain ⟨t129, A350, H⟩ := H
           try dsimp only at H
           have A35 := aM A350
           clear A350
           by_cases c36 : t129 = 0
           ·rw [if_pos c36] at H
            have c36b0 : (t129 == 0) = true := beq_iff_eq.mpr c36
            have c36b1 : (t129 != 0) = false := bne_eq_false_iff_eq.mpr c36
            clear c36
            have H' := aM H
            clear H
            have hnb37 := NB125_123.out
            have hnc37 := NB123_125.out
            obtain ⟨hcz38_0, hcz38_1, hcz38_2, hfz38_0, hfz38_1, hfz38_2⟩ := bc3 BK125
            obtain ⟨hcz39_0, hcz39_1, hcz39_2, hcz39_3, hcz39_4, hfz39_0, hfz39_1, hfz39_2, hfz39_3, hfz39_4⟩ := bc5 BK123
            go_wp2_with (first | ((with_reducible refine gate_callee (f := 52) rfl ?_); refine gL (some 39) Try.func52 #[.slice A124_1 ((rd_T51 l0_2 x10_1).f1).length c124_1, .func (.func 77) #[.agg #[.slice A0_0 l0_0.length c0_0, .slice A0_1 l0_1.length c0_1, .slice (some ad124) l0_2.length c0_2, .map (some M1), .map (some M2)]] #[]] ?_; (with_reducible refine (api_Member_by_data_checker_missing.callsB gb123 M1 M2 _ _ ((rd_T51 l0_2 x10_1).f1) A0_0 c0_0 l0_0 A0_1 c0_1 l0_1 (some ad124) c0_2 l0_2 false _ ?side1 ?side2 ?side3 ?side4 ?side5 ?side6 ?side7 ?side8 ?sideB ?sideM1 ?sideM2 A24.out).mono ?_); (case sideB => exact (kl BK123)); (case sideM1 => exact HM1.out.below (bl)); (case sideM2 => exact HM2.out.below (bl)); (case side1 => exact cl HR124_1); (case side2 => exact HC124_1.out); (case side3 => exact cl HR0_0); (case side4 => exact HC0_0.out); (case side5 => exact cl HR0_1); (case side6 => exact HC0_1.out); (case side7 => exact cl HR0_2); (case side8 => exact HC0_2.out); rintro e w40 ⟨rfl, hb⟩; refine ⟨_, rfl, ?_⟩; replace BK123 := aM (kB (kl BK123) hb); replace BK125 := aM (kB (kl BK125) hb); replace HB := aM (bS (bl) hb); (try clear hb); obtain ⟨hcz41_0, hcz41_1, hcz41_2, hfz41_0, hfz41_1, hfz41_2⟩ := bc3 BK125) | ((with_reducible refine gate_callee (f := 71) rfl ?_); refine gL (some 20) Try.func71 #[.slice A124_2 ((rd_T51 l0_2 x10_1).f2).length c124_2] ?_; (with_reducible refine (tags_Check.calls kj8 _ _ ((rd_T51 l0_2 x10_1).f2) t129 _ ?side1 ?side2 A35.out).mono ?_); (case side1 => exact cl HR124_2); (case side2 => exact HC124_2.out); rintro e w42 ⟨rfl, hb⟩; refine ⟨_, rfl, ?_⟩; replace BK123 := aM (kB (kl BK123) hb); replace BK125 := aM (kB (kl BK125) hb); replace HB := aM (bS (bl) hb); (try clear hb)))
            go_roundg kj8
            case measure => have := HK1.out; have := HJ8.out; omega
            case rel => exact ⟨(wrap64 (x10_1 + 1)), (by first | rfl | (simp; done) | (simp [*]; done)), H', ⟨by have := HK1.out; have := HJ8.out; omega⟩, ⟨by (with_reducible repeat (first | refine kN ?_ _ | refine kD ?_ | refine kA ?_ _)); exact BK123.out⟩, ⟨bl⟩⟩
           ·rw [if_neg c36] at H
            have c36b0 : (t129 == 0) = false := beq_eq_false_iff_ne.mpr c36
            have c36b1 : (t129 != 0) = true := bne_iff_ne.mpr c36
            obtain rfl := Option.some.inj H
            have hnb43 := NB125_123.out
            have hnc43 := NB123_125.out
            obtain ⟨hcz44_0, hcz44_1, hcz44_2, hfz44_0, hfz44_1, hfz44_2⟩ := bc3 BK125
            obtain ⟨hcz45_0, hcz45_1, hcz45_2, hcz45_3, hcz45_4, hfz45_0, hfz45_1, hfz45_2, hfz45_3, hfz45_4⟩ := bc5 BK123
            go_wp2_with (first | ((with_reducible refine gate_callee (f := 52) rfl ?_); refine gL (some 39) Try.func52 #[.slice A124_1 ((rd_T51 l0_2 x10_1).f1).length c124_1, .func (.func 77) #[.agg #[.slice A0_0 l0_0.length c0_0, .slice A0_1 l0_1.length c0_1, .slice (some ad124) l0_2.length c0_2, .map (some M1), .map (some M2)]] #[]] ?_; (with_reducible refine (api_Member_by_data_checker_missing.callsB gb123 M1 M2 _ _ ((rd_T51 l0_2 x10_1).f1) A0_0 c0_0 l0_0 A0_1 c0_1 l0_1 (some ad124) c0_2 l0_2 false _ ?side1 ?side2 ?side3 ?side4 ?side5 ?side6 ?side7 ?side8 ?sideB ?sideM1 ?sideM2 A24.out).mono ?_); (case sideB => exact (kl BK123)); (case sideM1 => exact HM1.out.below (bl)); (case sideM2 => exact HM2.out.below (bl)); (case side1 => exact cl HR124_1); (case side2 => exact HC124_1.out); (case side3 => exact cl HR0_0); (case side4 => exact HC0_0.out); (case side5 => exact cl HR0_1); (case side6 => exact HC0_1.out); (case side7 => exact cl HR0_2); (case side8 => exact HC0_2.out); rintro e w46 ⟨rfl, hb⟩; refine ⟨_, rfl, ?_⟩; replace BK123 := aM (kB (kl BK123) hb); replace BK125 := aM (kB (kl BK125) hb); replace HB := aM (bS (bl) hb); (try clear hb); obtain ⟨hcz47_0, hcz47_1, hcz47_2, hfz47_0, hfz47_1, hfz47_2⟩ := bc3 BK125) | ((with_reducible refine gate_callee (f := 71) rfl ?_); refine gL (some 20) Try.func71 #[.slice A124_2 ((rd_T51 l0_2 x10_1).f2).length c124_2] ?_; (with_reducible refine (tags_Check.calls kj8 _ _ ((rd_T51 l0_2 x10_1).f2) t129 _ ?side1 ?side2 A35.out).mono ?_); (case side1 => exact cl HR124_2); (case side2 => exact HC124_2.out); rintro e w48 ⟨rfl, hb⟩; refine ⟨_, rfl, ?_⟩; replace BK123 := aM (kB (kl BK123) hb); replace BK125 := aM (kB (kl BK125) hb); replace HB := aM (bS (bl) hb); (try clear hb)))
            go_ret
            exact ⟨by first | rfl | (simp [errW_none, errW_some] <;> rfl) | (simp [*, errW_none, errW_some] <;> rfl), bl⟩
      ·rw [if_neg c8] at H
       have c8b0 : (t126 == 0) = false := beq_eq_false_iff_ne.mpr c8
       have c8b1 : (t126 != 0) = true := bne_iff_ne.mpr c8
       obtain rfl := Option.some.inj H
       have p124 : 0 ≤ (x10_1 : Int) := oT
       have q124 : x10_1 < (l0_2.length : Int) := oT
       obtain ⟨ad124, A124_1, c124_1, A124_2, c124_2, e124, hx124_0, hx124_1, hx124_2, hl124_1, hi124_1, hl124_2, hi124_2⟩ := at_T51 HR0_2.out x10_1 p124 q124
       cases e124
       replace hx124_0 := hs HB.out hx124_0
       replace hx124_1 := hs HB.out hx124_1
       replace hx124_2 := hs HB.out hx124_2
       have HR124_1 := aM hi124_1
       have HC124_1 := aM hl124_1
       clear hi124_1 hl124_1
       have HR124_2 := aM hi124_2
       have HC124_2 := aM hl124_2
       clear hi124_2 hl124_2
       replace p124 := eq_true p124
       replace q124 := eq_true q124
       go_wp2_with (first | ((with_reducible refine gate_dst (N := 4) rfl ?_); refine bx (N := 4) (cs := #[.int .i64 0, .slice none 0 0, .slice none 0 0]) (t := 51) ?_; intro gb125 hg w49 hbox hb; have n0_ := aM (kB (kl BK123) hb); have n1_ := aM (bS (bl) hb); have n2_ := aM (hbox); have n4_ := aM (gw (w := w) hg); have n5_ := aM (nb BK123 hg); have n6_ := aM (nb BK123 hg).symm; (try clear BK123); (try clear HB); have BK123 := n0_; have HB := n1_; have BK125 := n2_; have GE125 := n4_; have NB123_125 := n5_; have NB125_123 := n6_; clear n0_ n1_ n2_ n4_ n5_ n6_ hb hbox hg; have hnb50 := NB125_123.out; have hnc50 := NB123_125.out; obtain ⟨hcz51_0, hcz51_1, hcz51_2, hfz51_0, hfz51_1, hfz51_2⟩ := bc3 BK125; have hcz52_0 : w49.cell? ⟨gb123, 0, none⟩ = some (.slice A0_0 l0_0.length c0_0) := (kC BK123.out 0).trans rfl; have hcz52_1 : w49.cell? ⟨gb123, 1, none⟩ = some (.slice A0_1 l0_1.length c0_1) := (kC BK123.out 1).trans rfl; have hcz52_2 : w49.cell? ⟨gb123, 2, none⟩ = some (.slice (some ad124) l0_2.length c0_2) := (kC BK123.out 2).trans rfl; have hfz52_0 := kF BK123.out 0; have hfz52_1 := kF BK123.out 1; have hfz52_2 := kF BK123.out 2) | ((with_reducible refine gate_callee (f := 69) rfl ?_); refine gL (some 17) Try.func69 #[.int .i64 x10_1, .func (.func 75) #[] #[.pointer (some ⟨gb123, 0, none⟩)]] ?_; (with_reducible refine (data_ids_by_data_checker_checkRels_1.callsB gb123 M1 M2 x10_1 A0_0 c0_0 l0_0 A0_1 c0_1 l0_1 (some ad124) c0_2 l0_2 t126 _ ?side1 ?side2 ?side3 ?side4 ?side5 ?side6 ?sideB A7.out).mono ?_); (case sideB => exact (by (with_reducible repeat (first | refine kN ?_ _ | refine kD ?_ | refine kA ?_ _)); refine blk_far ?_ NB123_125.out _; (with_reducible repeat (first | refine kN ?_ _ | refine kD ?_ | refine kA ?_ _)); refine blk_far ?_ NB123_125.out _; (with_reducible repeat (first | refine kN ?_ _ | refine kD ?_ | refine kA ?_ _)); refine blk_far ?_ NB123_125.out _; (with_reducible repeat (first | refine kN ?_ _ | refine kD ?_ | refine kA ?_ _)); exact BK123.out)); (case side1 => exact Kd.C_below HR0_0.out (bl)); (case side2 => exact HC0_0.out); (case side3 => exact Kd.C_below HR0_1.out (bl)); (case side4 => exact HC0_1.out); (case side5 => exact Kd.C_below HR0_2.out (bl)); (case side6 => exact HC0_2.out); rintro e w53 ⟨rfl, hb⟩; refine ⟨_, rfl, ?_⟩; replace BK123 := aM (kB (g := gb123) (o := .cells #[.slice A0_0 l0_0.length c0_0, .slice A0_1 l0_1.length c0_1, .slice (some ad124) l0_2.length c0_2, .map (some M1), .map (some M2)] 73 (0, 0)) (by (with_reducible repeat (first | refine kN ?_ _ | refine kD ?_ | refine kA ?_ _)); refine blk_far ?_ NB123_125.out _; (with_reducible repeat (first | refine kN ?_ _ | refine kD ?_ | refine kA ?_ _)); refine blk_far ?_ NB123_125.out _; (with_reducible repeat (first | refine kN ?_ _ | refine kD ?_ | refine kA ?_ _)); refine blk_far ?_ NB123_125.out _; (with_reducible repeat (first | refine kN ?_ _ | refine kD ?_ | refine kA ?_ _)); exact BK123.out) hb); replace BK125 := aM (kB (g := gb125) (o := .cells #[.int .i64 ((rd_T51 l0_2 x10_1).f0), .slice A124_1 ((rd_T51 l0_2 x10_1).f1).length c124_1, .slice A124_2 ((rd_T51 l0_2 x10_1).f2).length c124_2] 51 (0, 0)) (by (with_reducible repeat (first | refine kN ?_ _ | refine kD ?_ | refine kA ?_ _)); refine kP (cs := #[.int .i64 ((rd_T51 l0_2 x10_1).f0), .slice A124_1 ((rd_T51 l0_2 x10_1).f1).length c124_1, .slice none 0 0]) ?_ 2 _ rfl; (with_reducible repeat (first | refine kN ?_ _ | refine kD ?_ | refine kA ?_ _)); refine kP (cs := #[.int .i64 ((rd_T51 l0_2 x10_1).f0), .slice none 0 0, .slice none 0 0]) ?_ 1 _ rfl; (with_reducible repeat (first | refine kN ?_ _ | refine kD ?_ | refine kA ?_ _)); refine kP (cs := #[.int .i64 0, .slice none 0 0, .slice none 0 0]) ?_ 0 _ rfl; (with_reducible repeat (first | refine kN ?_ _ | refine kD ?_ | refine kA ?_ _)); exact BK125.out) hb); replace HB := aM (bS (bl) hb); (try clear hb)))
       go_ret
       exact ⟨by first | rfl | (simp [errW_none, errW_some] <;> rfl) | (simp [*, errW_none, errW_some] <;> rfl), bl⟩
     ·rw [if_neg c6] at H
      exact absurd H (by simp)
    ·rw [if_neg c5] at H
     exact absurd H (by simp)
   ·rw [if_neg c4] at H
    have c4b0 : decide (x10_1 < (l0_2.length : Int)) = false := decide_eq_false c4
    clear c4
    obtain rfl := Option.some.inj H
    go_wp2
    go_ret
    exact ⟨by first | rfl | (simp [errW_none, errW_some] <;> rfl) | (simp [*, errW_none, errW_some] <;> rfl), bl⟩
def data_Check.f (k : Nat) (l0_0 : List S39) (l0_1 : List S45) (l0_2 : List S51) : Option Int :=
 if 10000 < l0_0.length ∨ 10000 < l0_1.length ∨ 10000 < l0_2.length then some 5
 else if (∀ x ∈ l0_0, InI x.f0) ∧ (∀ x ∈ l0_1, InI x.f0) then
  (data_checker_checkNodes.f k l0_0 l0_1 l0_2).bind fun e0 => if e0 = 0 then (data_checker_checkWays.f k l0_0 l0_1 l0_2).bind fun e1 => if e1 = 0 then data_checker_checkRels.f k l0_0 l0_1 l0_2 else some e1 else some e0
 else none
theorem data_Check.mono : ∀ a0 a1 a2 k, LeO (data_Check.f k a0 a1 a2) (data_Check.f (k + 1) a0 a1 a2) := fun a0 a1 a2 k =>
 LeO.ite (LeO.refl _) (LeO.ite (LeO.bind (data_checker_checkNodes.mono a0 a1 a2 k) (fun _ => LeO.ite (LeO.bind (data_checker_checkWays.mono a0 a1 a2 k) (fun _ => LeO.ite (data_checker_checkRels.mono a0 a1 a2 k) (LeO.refl _))) (LeO.refl _))) (LeO.refl _))
def CkInv (w wr : World) (gc M1 M2 : Nat) (d0 d1 d2 : Value) (i0 i1 : List Int) : Prop := Below w.heap.size w wr ∧ wr.heap[w.heap.size]? = some (.cells #[d0, d1, d2] 26 (0, 0)) ∧ wr.heap[gc]? = some (.cells #[d0, d1, d2, .map (some M1), .map (some M2)] 73 (0, 0)) ∧ HasIds wr M1 i0 ∧ HasIds wr M2 i1
theorem CkInv.alloc {w wr : World} {gc M1 M2 : Nat} {d0 d1 d2 : Value} {i0 i1 : List Int} (h : CkInv w wr gc M1 M2 d0 d1 d2 i0 i1) (o : Obj) : CkInv w (wr.alloc o) gc M1 M2 d0 d1 d2 i0 i1 :=
 ⟨bA h.1 o, kA h.2.1 o, kA h.2.2.1 o, h.2.2.2.1.below (bA (Below.refl _ _) _), h.2.2.2.2.below (bA (Below.refl _ _) _)⟩
theorem CkInv.below {w wr w' : World} {gc M1 M2 : Nat} {d0 d1 d2 : Value} {i0 i1 : List Int} (h : CkInv w wr gc M1 M2 d0 d1 d2 i0 i1) (hb : Below wr.heap.size wr w') : CkInv w w' gc M1 M2 d0 d1 d2 i0 i1 :=
 ⟨h.1.trans (hb.mono h.1.size), kB h.2.1 hb, kB h.2.2.1 hb, h.2.2.2.1.below hb, h.2.2.2.2.below hb⟩
theorem CkInv.put1 {w wr w' : World} {gc M1 M2 : Nat} {d0 d1 d2 : Value} {i0 i0' i1 : List Int} (h : CkInv w wr gc M1 M2 d0 d1 d2 i0 i1) (h1 : w.heap.size < M1) (h2 : M1 < M2) (h3 : M2 < gc) (hg : wr.grownBy w' (some M1)) (hi : HasIds w' M1 i0') : CkInv w w' gc M1 M2 d0 d1 d2 i0' i1 :=
 ⟨h.1.grown hg h.1.size (fun k hk => by cases hk; omega), (hg.block _ (blk_lt h.2.1) (by simp; omega)).trans h.2.1, (hg.block _ (blk_lt h.2.2.1) (by simp; omega)).trans h.2.2.1, hi, h.2.2.2.2.grown hg (by simp; omega)⟩
theorem CkInv.put2 {w wr w' : World} {gc M1 M2 : Nat} {d0 d1 d2 : Value} {i0 i1 i1' : List Int} (h : CkInv w wr gc M1 M2 d0 d1 d2 i0 i1) (h1 : w.heap.size < M1) (h2 : M1 < M2) (h3 : M2 < gc) (hg : wr.grownBy w' (some M2)) (hi : HasIds w' M2 i1') : CkInv w w' gc M1 M2 d0 d1 d2 i0 i1' :=
 ⟨h.1.grown hg h.1.size (fun k hk => by cases hk; omega), (hg.block _ (blk_lt h.2.1) (by simp; omega)).trans h.2.1, (hg.block _ (blk_lt h.2.2.1) (by simp; omega)).trans h.2.2.1, h.2.2.2.1.grown hg (by simp; omega), hi⟩
theorem CkInv.start (w : World) (d0 d1 d2 : Value) : CkInv w ((((w.alloc (.cells #[d0, d1, d2] 26)).alloc (.map #[] 0)).alloc (.map #[] 0)).alloc (.cells #[d0, d1, d2, .map (some (w.heap.size + 1)), .map (some (w.heap.size + 1 + 1))] 73)) (w.heap.size + 1 + 1 + 1) (w.heap.size + 1) (w.heap.size + 1 + 1) d0 d1 d2 [] [] := by
 refine ⟨bA (bA (bA (bA (Below.refl _ _) _) _) _) _, kA (kA (kA (blk_new w _) _) _) _, ?_, ?_, ?_⟩
 ·have h := blk_new (((w.alloc (.cells #[d0, d1, d2] 26)).alloc (.map #[] 0)).alloc (.map #[] 0)) (.cells #[d0, d1, d2, .map (some (w.heap.size + 1)), .map (some (w.heap.size + 1 + 1))] 73)
  simpa using h
 ·have h := ((HasIds.made (w.alloc (.cells #[d0, d1, d2] 26))).below (bA (Below.refl _ _) (.map #[] 0))).below (bA (Below.refl _ _) (.cells #[d0, d1, d2, .map (some (w.heap.size + 1)), .map (some (w.heap.size + 1 + 1))] 73))
  simpa using h
 ·have h := (HasIds.made ((w.alloc (.cells #[d0, d1, d2] 26)).alloc (.map #[] 0))).below (bA (Below.refl _ _) (.cells #[d0, d1, d2, .map (some (w.heap.size + 1)), .map (some (w.heap.size + 1 + 1))] 73))
  simpa using h
def ckTail (k : Nat) (l0_0 : List S39) (l0_1 : List S45) (l0_2 : List S51) : Nat → Option Int
 | 0 => (data_checker_checkNodes.f k l0_0 l0_1 l0_2).bind fun e0 => if e0 = 0 then (data_checker_checkWays.f k l0_0 l0_1 l0_2).bind fun e1 => if e1 = 0 then data_checker_checkRels.f k l0_0 l0_1 l0_2 else some e1 else some e0
 | 1 => (data_checker_checkWays.f k l0_0 l0_1 l0_2).bind fun e1 => if e1 = 0 then data_checker_checkRels.f k l0_0 l0_1 l0_2 else some e1
 | 2 => data_checker_checkRels.f k l0_0 l0_1 l0_2
 | _ => some 0
set_option maxHeartbeats 8000000 in
set_option maxRecDepth 100000 in
theorem data_Check.calls (k : Nat) (A0_0 : Option Addr) (c0_0 : Nat) (l0_0 : List S39) (A0_1 : Option Addr) (c0_1 : Nat) (l0_1 : List S45) (A0_2 : Option Addr) (c0_2 : Nat) (l0_2 : List S51) (r : Int) (w : World)
  (hr0_0 : Kd.C k39 w A0_0 l0_0.length l0_0) (hc0_0 : l0_0.length ≤ c0_0) (hr0_1 : Kd.C k45 w A0_1 l0_1.length l0_1) (hc0_1 : l0_1.length ≤ c0_1) (hr0_2 : Kd.C k51 w A0_2 l0_2.length l0_2) (hc0_2 : l0_2.length ≤ c0_2) (h : data_Check.f k l0_0 l0_1 l0_2 = some r) :
  Calls Try.prog 10 #[.agg #[.slice A0_0 l0_0.length c0_0, .slice A0_1 l0_1.length c0_1, .slice A0_2 l0_2.length c0_2]] w fun e w' => e = .returned (.int .i64 r) ∧ Below w.heap.size w w' := by
 have hu26 := Try.underlying26
 have hu73 := Try.underlying73
 have HR0 := aM hr0_0
 have HR1 := aM hr0_1
 have HR2 := aM hr0_2
 have HC0 := aM hc0_0
 have HC1 := aM hc0_1
 have HC2 := aM hc0_2
 clear hr0_0 hr0_1 hr0_2 hc0_0 hc0_1 hc0_2
 have hmm := @run_makeMap Try.prog
 unfold data_Check.f at h
 by_cases hbig : 10000 < l0_0.length ∨ 10000 < l0_1.length ∨ 10000 < l0_2.length
 ·rw [if_pos hbig] at h
  obtain rfl := Option.some.inj h
  go_enter Try.func10, Try.ntmps10
  go_wp2
  all_goals
   go_ret
   exact ⟨rfl, bA (Below.refl _ _) _⟩
 ·rw [if_neg hbig] at h
  split at h
  case isFalse => cases h
  rename_i hin
  have HT := aM (show ckTail k l0_0 l0_1 l0_2 0 = some r from h)
  have HIN := aM hin
  have HL := aM (show l0_0.length ≤ 10000 ∧ l0_1.length ≤ 10000 ∧ l0_2.length ≤ 10000 by omega)
  have hst := CkInv.start w (.slice A0_0 l0_0.length c0_0) (.slice A0_1 l0_1.length c0_1) (.slice A0_2 l0_2.length c0_2)
  clear h hin
  obtain ⟨w4, hw4⟩ : ∃ w4, w4 = (((w.alloc (.cells #[.slice A0_0 l0_0.length c0_0, .slice A0_1 l0_1.length c0_1, .slice A0_2 l0_2.length c0_2] 26)).alloc (.map #[] 0)).alloc (.map #[] 0)).alloc (.cells #[.slice A0_0 l0_0.length c0_0, .slice A0_1 l0_1.length c0_1, .slice A0_2 l0_2.length c0_2, .map (some (w.heap.size + 1)), .map (some (w.heap.size + 1 + 1))] 73) := ⟨_, rfl⟩
  rw [← hw4] at hst
  have HW4 := aM hw4
  have HST := aM hst
  clear hw4 hst
  go_enter Try.func10, Try.ntmps10
  go_wp2
  all_goals
   clear hmm
   rw [← HW4.out]
   clear HW4
   have HN := aM (show w.heap.size < w.heap.size + 1 ∧ w.heap.size + 1 < w.heap.size + 1 + 1 ∧ w.heap.size + 1 + 1 < w.heap.size + 1 + 1 + 1 by omega)
   generalize w.heap.size + 1 + 1 + 1 = gc at HN HST ⊢
   generalize w.heap.size + 1 + 1 = M2 at HN HST ⊢
   generalize w.heap.size + 1 = M1 at HN HST ⊢
   go_loopg [29] l0_0.length (fun gg v29 wr => ∃ i : Nat, i ≤ l0_0.length ∧ l0_0.length - i ≤ gg ∧ v29 = .int .i64 i ∧ Aside0 (CkInv w wr gc M1 M2 (.slice A0_0 l0_0.length c0_0) (.slice A0_1 l0_1.length c0_1) (.slice A0_2 l0_2.length c0_2) ((l0_0.take i).map (fun x => x.f0)) []))
   case atStart => exact ⟨0, by omega, by omega, rfl, HST⟩
   case round =>
    clear HST
    obtain ⟨i, hi, hg, rfl, IV⟩ := hrel
    by_cases hlt : i < l0_0.length
    ·have hltI : (i : Int) < (l0_0.length : Int) := by omega
     obtain ⟨ad, A3, c3, e0, hx0, hx1, hx2, hx3, hl3, hi3⟩ := at_T39 (Kd.C_below HR0.out IV.out.1) (i : Int) (by omega) hltI
     cases e0
     have hy : rd_T39 l0_0 (i : Int) = l0_0[i] := by unfold rd_T39; rw [Int.toNat_natCast, List.getD_eq_getElem?_getD, List.getElem?_eq_getElem hlt]; rfl
     rw [hy] at hx0 hx1 hx2 hx3
     rw [Int.toNat_natCast] at hx0 hx1 hx2 hx3
     have hII := HIN.out.1 _ (List.getElem_mem hlt)
     have TK := aM (show (l0_0.take (i + 1)).map (fun x => x.f0) = (l0_0.take i).map (fun x => x.f0) ++ [l0_0[i].f0] by rw [List.take_succ_eq_append_getElem hlt, List.map_append]; rfl)
     clear hl3 hi3 hy
     generalize l0_0[i] = x at hx0 hx1 hx2 hx3 hII TK
     have IVx := IV.out.alloc (.cells #[.int .i64 x.f0, .int .i64 x.f1.f0, .int .i64 x.f1.f1, .slice A3 x.f2.length c3] 39)
     obtain ⟨w', hrun, hids, hgr⟩ := IVx.2.2.2.1.put hII (by unfold maxLen; rw [List.length_map, List.length_take]; omega)
     have IV' := aM (IVx.put1 HN.out.1 HN.out.2.1 HN.out.2.2 hgr hids)
     have hc3 : (wr.alloc (.cells #[.int .i64 x.f0, .int .i64 x.f1.f0, .int .i64 x.f1.f1, .slice A3 x.f2.length c3] 39)).cell? ⟨gc, 3, none⟩ = some (.map (some M1)) := (kC IVx.2.2.1 3).trans rfl
     have hf3 := kF IVx.2.2.1 3
     clear IVx hids hgr hII
     go_wp2
     go_roundg (l0_0.length - (i + 1))
     case measure => omega
     case rel => exact ⟨i + 1, by omega, by omega, by go_num, ⟨by rw [TK.out]; exact IV'.out⟩⟩
    ·have : i = l0_0.length := by omega
     subst this
     have IV2 := aM (show CkInv w wr gc M1 M2 (.slice A0_0 l0_0.length c0_0) (.slice A0_1 l0_1.length c0_1) (.slice A0_2 l0_2.length c0_2) (l0_0.map (fun x => x.f0)) [] by have := IV.out; rwa [List.take_length] at this)
     have hd1 : wr.cell? ⟨w.heap.size, 1, none⟩ = some (.slice A0_1 l0_1.length c0_1) := (kC IV2.out.2.1 1).trans rfl
     clear IV
     go_wp2
     clear hd1
     go_loopg [41] l0_1.length (fun gg v41 wr => ∃ i : Nat, i ≤ l0_1.length ∧ l0_1.length - i ≤ gg ∧ v41 = .int .i64 i ∧ Aside0 (CkInv w wr gc M1 M2 (.slice A0_0 l0_0.length c0_0) (.slice A0_1 l0_1.length c0_1) (.slice A0_2 l0_2.length c0_2) (l0_0.map (fun x => x.f0)) ((l0_1.take i).map (fun x => x.f0))))
     case atStart => exact ⟨0, by omega, by omega, rfl, IV2⟩
     case round =>
      clear IV2
      obtain ⟨i, hi, hg, rfl, IV⟩ := hrel
      by_cases hlt : i < l0_1.length
      ·have hltI : (i : Int) < (l0_1.length : Int) := by omega
       obtain ⟨ad, A1, c1, A2, c2, e0, hx0, hx1, hx2, hl1, hi1, hl2, hi2⟩ := at_T45 (Kd.C_below HR1.out IV.out.1) (i : Int) (by omega) hltI
       cases e0
       have hy : rd_T45 l0_1 (i : Int) = l0_1[i] := by unfold rd_T45; rw [Int.toNat_natCast, List.getD_eq_getElem?_getD, List.getElem?_eq_getElem hlt]; rfl
       rw [hy] at hx0 hx1 hx2
       rw [Int.toNat_natCast] at hx0 hx1 hx2
       have hII := HIN.out.2 _ (List.getElem_mem hlt)
       have TK := aM (show (l0_1.take (i + 1)).map (fun x => x.f0) = (l0_1.take i).map (fun x => x.f0) ++ [l0_1[i].f0] by rw [List.take_succ_eq_append_getElem hlt, List.map_append]; rfl)
       clear hl1 hi1 hl2 hi2 hy
       generalize l0_1[i] = x at hx0 hx1 hx2 hII TK
       have IVx := IV.out.alloc (.cells #[.int .i64 x.f0, .slice A1 x.f1.length c1, .slice A2 x.f2.length c2] 45)
       obtain ⟨w', hrun, hids, hgr⟩ := IVx.2.2.2.2.put hII (by unfold maxLen; rw [List.length_map, List.length_take]; omega)
       have IV' := aM (IVx.put2 HN.out.1 HN.out.2.1 HN.out.2.2 hgr hids)
       have hc4 : (wr.alloc (.cells #[.int .i64 x.f0, .slice A1 x.f1.length c1, .slice A2 x.f2.length c2] 45)).cell? ⟨gc, 4, none⟩ = some (.map (some M2)) := (kC IVx.2.2.1 4).trans rfl
       have hf4 := kF IVx.2.2.1 4
       clear IVx hids hgr hII
       go_wp2
       go_roundg (l0_1.length - (i + 1))
       case measure => omega
       case rel => exact ⟨i + 1, by omega, by omega, by go_num, ⟨by rw [TK.out]; exact IV'.out⟩⟩
      ·have : i = l0_1.length := by omega
       subst this
       have IV3 := aM (show CkInv w wr gc M1 M2 (.slice A0_0 l0_0.length c0_0) (.slice A0_1 l0_1.length c0_1) (.slice A0_2 l0_2.length c0_2) (l0_0.map (fun x => x.f0)) (l0_1.map (fun x => x.f0)) by have := IV.out; rwa [List.take_length] at this)
       clear IV
       have BF0 := aM (blk_new wr (.cells #[.func (.func 37) #[] #[], .func (.func 38) #[] #[], .func (.func 39) #[] #[]] 74))
       have IVf := aM (IV3.out.alloc (.cells #[.func (.func 37) #[] #[], .func (.func 38) #[] #[], .func (.func 39) #[] #[]] 74))
       have eg37 : ∀ args w, (callFunc 37 args).run Try.prog w = .ok (.enter 37 args) w := enters_of Try.func37 (by kernel_rfl) rfl
       have eg38 : ∀ args w, (callFunc 38 args).run Try.prog w = .ok (.enter 38 args) w := enters_of Try.func38 (by kernel_rfl) rfl
       have eg39 : ∀ args w, (callFunc 39 args).run Try.prog w = .ok (.enter 39 args) w := enters_of Try.func39 (by kernel_rfl) rfl
       clear IV3
       go_wp2
       generalize wr.alloc (.cells #[.func (.func 37) #[] #[], .func (.func 38) #[] #[], .func (.func 39) #[] #[]] 74) = wf at IVf BF0 ⊢
       generalize wr.heap.size = gf at BF0 ⊢
       go_loopg [52] 3 (fun gg v52 wr => ∃ i : Nat, i ≤ 3 ∧ 3 - i ≤ gg ∧ v52 = .int .i64 i ∧ Aside0 (CkInv w wr gc M1 M2 (.slice A0_0 l0_0.length c0_0) (.slice A0_1 l0_1.length c0_1) (.slice A0_2 l0_2.length c0_2) (l0_0.map (fun x => x.f0)) (l0_1.map (fun x => x.f0))) ∧ Aside0 (wr.heap[gf]? = some (.cells #[.func (.func 37) #[] #[], .func (.func 38) #[] #[], .func (.func 39) #[] #[]] 74)) ∧ Aside0 (ckTail k l0_0 l0_1 l0_2 i = some r))
       case atStart => exact ⟨0, by omega, by omega, rfl, IVf, BF0, HT⟩
       case round =>
        clear IVf BF0 HT
        obtain ⟨i, hi, hg, rfl, IV, BF, TT⟩ := hrel
        have hh : i = 0 ∨ i = 1 ∨ i = 2 ∨ i = 3 := by omega
        rcases hh with rfl | rfl | rfl | rfl
        ·have T := TT.out
         obtain ⟨e0, he0, hT⟩ := Option.bind_eq_some_iff.mp T
         have HCALL := aM (data_checker_checkNodes.calls k M1 M2 A0_0 c0_0 l0_0 A0_1 c0_1 l0_1 A0_2 c0_2 l0_2 e0 wr (Kd.C_below HR0.out IV.out.1) HC0.out (Kd.C_below HR1.out IV.out.1) HC1.out (Kd.C_below HR2.out IV.out.1) HC2.out IV.out.2.2.2.1 IV.out.2.2.2.2 he0)
         have hcf : wr.cell? ⟨gf, 0, none⟩ = some (.func (.func 37) #[] #[]) := (kC BF.out 0).trans rfl
         have hff := kF BF.out 0
         have hc0 : wr.cell? ⟨gc, 0, none⟩ = some (.slice A0_0 l0_0.length c0_0) := (kC IV.out.2.2.1 0).trans rfl
         have hc1 : wr.cell? ⟨gc, 1, none⟩ = some (.slice A0_1 l0_1.length c0_1) := (kC IV.out.2.2.1 1).trans rfl
         have hc2 : wr.cell? ⟨gc, 2, none⟩ = some (.slice A0_2 l0_2.length c0_2) := (kC IV.out.2.2.1 2).trans rfl
         have hc3 : wr.cell? ⟨gc, 3, none⟩ = some (.map (some M1)) := (kC IV.out.2.2.1 3).trans rfl
         have hc4 : wr.cell? ⟨gc, 4, none⟩ = some (.map (some M2)) := (kC IV.out.2.2.1 4).trans rfl
         have hf0 := kF IV.out.2.2.1 0
         have hf1 := kF IV.out.2.2.1 1
         have hf2 := kF IV.out.2.2.1 2
         have hf3 := kF IV.out.2.2.1 3
         have hf4 := kF IV.out.2.2.1 4
         have HT0 := aM hT
         clear T he0 hT
         by_cases ez : e0 = 0
         ·have ez1 : (e0 == 0) = true := beq_iff_eq.mpr ez
          have ez2 : (e0 != 0) = false := bne_eq_false_iff_eq.mpr ez
          have EZ := aM ez
          clear ez
          go_wp2_with (first | (go_at_fn 37; refine HCALL.out.mono ?_; rintro e w' ⟨rfl, hb'⟩; have IVn := aM (IV.out.below hb'); have BFn := aM (kB BF.out hb'); clear hb') | go_in)
          go_roundg 2
          case measure => omega
          case rel => exact ⟨1, by omega, by omega, by go_num, IVn, BFn, ⟨by have := HT0.out; rw [if_pos EZ.out] at this; exact this⟩⟩
         ·have ez1 : (e0 == 0) = false := beq_eq_false_iff_ne.mpr ez
          have ez2 : (e0 != 0) = true := bne_iff_ne.mpr ez
          have EZ := aM ez
          clear ez
          go_wp2_with (first | (go_at_fn 37; refine HCALL.out.mono ?_; rintro e w' ⟨rfl, hb'⟩; have IVn := aM (IV.out.below hb'); clear hb') | go_in)
          go_ret
          exact ⟨by have := HT0.out; rw [if_neg EZ.out] at this; rw [← Option.some.inj this]; rfl, IVn.out.1⟩
        ·have T := TT.out
         obtain ⟨e0, he0, hT⟩ := Option.bind_eq_some_iff.mp T
         have HCALL := aM (data_checker_checkWays.calls k M1 M2 A0_0 c0_0 l0_0 A0_1 c0_1 l0_1 A0_2 c0_2 l0_2 e0 wr (Kd.C_below HR0.out IV.out.1) HC0.out (Kd.C_below HR1.out IV.out.1) HC1.out (Kd.C_below HR2.out IV.out.1) HC2.out IV.out.2.2.2.1 IV.out.2.2.2.2 he0)
         have hcf : wr.cell? ⟨gf, 1, none⟩ = some (.func (.func 38) #[] #[]) := (kC BF.out 1).trans rfl
         have hff := kF BF.out 1
         have hc0 : wr.cell? ⟨gc, 0, none⟩ = some (.slice A0_0 l0_0.length c0_0) := (kC IV.out.2.2.1 0).trans rfl
         have hc1 : wr.cell? ⟨gc, 1, none⟩ = some (.slice A0_1 l0_1.length c0_1) := (kC IV.out.2.2.1 1).trans rfl
         have hc2 : wr.cell? ⟨gc, 2, none⟩ = some (.slice A0_2 l0_2.length c0_2) := (kC IV.out.2.2.1 2).trans rfl
         have hc3 : wr.cell? ⟨gc, 3, none⟩ = some (.map (some M1)) := (kC IV.out.2.2.1 3).trans rfl
         have hc4 : wr.cell? ⟨gc, 4, none⟩ = some (.map (some M2)) := (kC IV.out.2.2.1 4).trans rfl
         have hf0 := kF IV.out.2.2.1 0
         have hf1 := kF IV.out.2.2.1 1
         have hf2 := kF IV.out.2.2.1 2
         have hf3 := kF IV.out.2.2.1 3
         have hf4 := kF IV.out.2.2.1 4
         have HT0 := aM hT
         clear T he0 hT
         by_cases ez : e0 = 0
         ·have ez1 : (e0 == 0) = true := beq_iff_eq.mpr ez
          have ez2 : (e0 != 0) = false := bne_eq_false_iff_eq.mpr ez
          have EZ := aM ez
          clear ez
          go_wp2_with (first | (go_at_fn 38; refine HCALL.out.mono ?_; rintro e w' ⟨rfl, hb'⟩; have IVn := aM (IV.out.below hb'); have BFn := aM (kB BF.out hb'); clear hb') | go_in)
          go_roundg 1
          case measure => omega
          case rel => exact ⟨2, by omega, by omega, by go_num, IVn, BFn, ⟨by have := HT0.out; rw [if_pos EZ.out] at this; exact this⟩⟩
         ·have ez1 : (e0 == 0) = false := beq_eq_false_iff_ne.mpr ez
          have ez2 : (e0 != 0) = true := bne_iff_ne.mpr ez
          have EZ := aM ez
          clear ez
          go_wp2_with (first | (go_at_fn 38; refine HCALL.out.mono ?_; rintro e w' ⟨rfl, hb'⟩; have IVn := aM (IV.out.below hb'); clear hb') | go_in)
          go_ret
          exact ⟨by have := HT0.out; rw [if_neg EZ.out] at this; rw [← Option.some.inj this]; rfl, IVn.out.1⟩
        ·have T := TT.out
         obtain ⟨e0, he0⟩ : ∃ e0, e0 = r := ⟨_, rfl⟩
         have hT : e0 = r := he0
         replace he0 : data_checker_checkRels.f k l0_0 l0_1 l0_2 = some e0 := by rw [hT]; exact T
         have HCALL := aM (data_checker_checkRels.calls k M1 M2 A0_0 c0_0 l0_0 A0_1 c0_1 l0_1 A0_2 c0_2 l0_2 e0 wr (Kd.C_below HR0.out IV.out.1) HC0.out (Kd.C_below HR1.out IV.out.1) HC1.out (Kd.C_below HR2.out IV.out.1) HC2.out IV.out.2.2.2.1 IV.out.2.2.2.2 he0)
         have hcf : wr.cell? ⟨gf, 2, none⟩ = some (.func (.func 39) #[] #[]) := (kC BF.out 2).trans rfl
         have hff := kF BF.out 2
         have hc0 : wr.cell? ⟨gc, 0, none⟩ = some (.slice A0_0 l0_0.length c0_0) := (kC IV.out.2.2.1 0).trans rfl
         have hc1 : wr.cell? ⟨gc, 1, none⟩ = some (.slice A0_1 l0_1.length c0_1) := (kC IV.out.2.2.1 1).trans rfl
         have hc2 : wr.cell? ⟨gc, 2, none⟩ = some (.slice A0_2 l0_2.length c0_2) := (kC IV.out.2.2.1 2).trans rfl
         have hc3 : wr.cell? ⟨gc, 3, none⟩ = some (.map (some M1)) := (kC IV.out.2.2.1 3).trans rfl
         have hc4 : wr.cell? ⟨gc, 4, none⟩ = some (.map (some M2)) := (kC IV.out.2.2.1 4).trans rfl
         have hf0 := kF IV.out.2.2.1 0
         have hf1 := kF IV.out.2.2.1 1
         have hf2 := kF IV.out.2.2.1 2
         have hf3 := kF IV.out.2.2.1 3
         have hf4 := kF IV.out.2.2.1 4
         have HT0 := aM hT
         clear T he0 hT
         by_cases ez : e0 = 0
         ·have ez1 : (e0 == 0) = true := beq_iff_eq.mpr ez
          have ez2 : (e0 != 0) = false := bne_eq_false_iff_eq.mpr ez
          have EZ := aM ez
          clear ez
          go_wp2_with (first | (go_at_fn 39; refine HCALL.out.mono ?_; rintro e w' ⟨rfl, hb'⟩; have IVn := aM (IV.out.below hb'); have BFn := aM (kB BF.out hb'); clear hb') | go_in)
          go_roundg 0
          case measure => omega
          case rel => exact ⟨3, by omega, by omega, by go_num, IVn, BFn, ⟨by have := HT0.out; show some 0 = some r; rw [← this, EZ.out]⟩⟩
         ·have ez1 : (e0 == 0) = false := beq_eq_false_iff_ne.mpr ez
          have ez2 : (e0 != 0) = true := bne_iff_ne.mpr ez
          have EZ := aM ez
          clear ez
          go_wp2_with (first | (go_at_fn 39; refine HCALL.out.mono ?_; rintro e w' ⟨rfl, hb'⟩; have IVn := aM (IV.out.below hb'); clear hb') | go_in)
          go_ret
          exact ⟨by rw [← HT0.out]; rfl, IVn.out.1⟩
        ·have T := TT.out
         have HR := aM (Option.some.inj (show some 0 = some r from T))
         clear T
         go_wp2
         go_ret
         exact ⟨by rw [← HR.out]; rfl, IV.out.1⟩
theorem ixOf_find {α : Type} (p : α → Bool) (l : List α) (z : α) : (ixOf p l = -1 ∧ l.find? p = none) ∨ ∃ k : Nat, ixOf p l = (k : Int) ∧ k < l.length ∧ l.find? p = some (l.getD k z) := by
 unfold ixOf
 cases h : l.findIdx? p with
 | none => exact .inl ⟨rfl, by rw [List.find?_eq_none]; intro x hx; rw [List.findIdx?_eq_none_iff.mp h x hx]; exact Bool.false_ne_true⟩
 | some k =>
  obtain ⟨hk, hp, hb⟩ := List.findIdx?_eq_some_iff_getElem.mp h
  refine .inr ⟨k, rfl, hk, ?_⟩
  rw [List.getD_eq_getElem?_getD, List.getElem?_eq_getElem hk, Option.getD_some]
  rw [List.find?_eq_some_iff_getElem]
  exact ⟨hp, k, hk, rfl, fun j hj => by simpa using hb j hj⟩
set_option maxHeartbeats 4000000 in
set_option maxRecDepth 100000 in
theorem ix80 (p : S45 → Bool) (g : Nat) (lb : Array Value) (eg : ∀ args w, (callFunc g args).run Try.prog w = .ok (.enter g args) w) (A0 : Option Addr) (c0 : Nat) (l0 : List S45) (w : World) (hr0 : Kd.C k45 w A0 l0.length l0)
  (hp : ∀ (W : World) (x : S45) (A1 : Option Addr) (c1 : Nat) (A2 : Option Addr) (c2 : Nat), Below w.heap.size w W → Calls Try.prog g (#[.agg #[.int .i64 x.f0, .slice A1 x.f1.length c1, .slice A2 x.f2.length c2]] ++ lb) W fun e w' => e = .returned (.bool (p x)) ∧ Below W.heap.size W w') :
  Calls Try.prog 80 #[.slice A0 l0.length c0, .func (.func g) #[] lb] w fun e w' => e = .returned (.int .i64 (ixOf p l0)) ∧ Below w.heap.size w w' := by
 have hbig : l0.length ≤ 9223372036854775807 := hr0.2.1
 have HR0 := aM hr0
 clear hr0
 have HP := aM hp
 clear hp
 go_enter Try.func80, Try.ntmps80
 go_wp2
 go_loopg [5, 8] l0.length (fun gg _ s8 wr => ∃ kk : Int, 0 ≤ kk ∧ kk ≤ (l0.length : Int) ∧ (l0.length : Int) - kk ≤ gg ∧ s8 = .int .i64 kk ∧ Aside0 (Below w.heap.size w wr) ∧ Aside0 (∀ j : Nat, (j : Int) < kk → p (l0.getD j z45) = false))
 case atStart => exact ⟨0, by omega, by omega, by omega, rfl, ⟨Below.refl _ w⟩, ⟨fun j hj => absurd hj (by omega)⟩⟩
 case round =>
  obtain ⟨kk, hk0, hkk, hg, rfl, BW, AA⟩ := hrel
  by_cases hlt : kk < (l0.length : Int)
  ·obtain ⟨ad, A1, c1, A2, c2, e0, hx0, hx1, hx2, hl1, hi1, hl2, hi2⟩ := at_T45 (Kd.C_below HR0.out BW.out) kk hk0 hlt
   cases e0
   have hcall := HP.out wr (rd_T45 l0 kk) A1 c1 A2 c2 BW.out
   have B := aM (show rd_T45 l0 kk = l0.getD kk.toNat z45 from rfl)
   clear hl1 hi1 hl2 hi2
   generalize rd_T45 l0 kk = y at hcall hx0 hx1 hx2 B
   cases hq : p y with
   | true =>
    rw [hq] at hcall
    have HQ := aM hq
    clear hq
    go_wp2_with (go_at_fn g; refine hcall.mono ?_; rintro e w' ⟨rfl, hb'⟩)
    go_ret
    refine ⟨?_, BW.out.trans (hb'.mono BW.out.size)⟩
    rw [ixOf_hit p l0 z45 kk.toNat (by omega) (by rw [← B.out]; exact HQ.out) (fun j hj => AA.out j (by omega))]
    rw [Int.toNat_of_nonneg hk0]
    rfl
   | false =>
    rw [hq] at hcall
    have HQ := aM hq
    clear hq
    go_wp2_with (go_at_fn g; refine hcall.mono ?_; rintro e w' ⟨rfl, hb'⟩)
    go_roundg (l0.length - (kk.toNat + 1))
    case measure => omega
    case rel =>
     refine ⟨kk + 1, by omega, by omega, by omega, by go_num, ⟨BW.out.trans (hb'.mono BW.out.size)⟩, ⟨fun j hj => ?_⟩⟩
     by_cases e : (j : Int) = kk
     ·have : j = kk.toNat := by omega
      subst this
      rw [← B.out]; exact HQ.out
     ·exact AA.out j (by omega)
  ·have : kk = (l0.length : Int) := by omega
   subst this
   go_wp2
   go_ret
   refine ⟨?_, BW.out⟩
   rw [ixOf_miss p l0 z45 (fun j hj => AA.out j (by omega))]
   rfl
set_option maxHeartbeats 4000000 in
set_option maxRecDepth 100000 in
theorem find46 (p : S45 → Bool) (g : Nat) (lb : Array Value) (eg : ∀ args w, (callFunc g args).run Try.prog w = .ok (.enter g args) w) (P0_ : Nat → Prop) (A0 : Option Addr) (c0 : Nat) (l0 : List S45) (w : World) (hs0 : Kd.V k45 45 w w.heap.size P0_ (.slice A0 l0.length c0) l0)
  (hp : ∀ (W : World) (x : S45) (A1 : Option Addr) (c1 : Nat) (A2 : Option Addr) (c2 : Nat), Below w.heap.size w W → Calls Try.prog g (#[.agg #[.int .i64 x.f0, .slice A1 x.f1.length c1, .slice A2 x.f2.length c2]] ++ lb) W fun e w' => e = .returned (.bool (p x)) ∧ Below W.heap.size W w') (y : S45) (b : Bool) (hy : y = (l0.find? p).getD z45) (hb : b = (l0.find? p).isSome) :
  Calls Try.prog 46 #[.slice A0 l0.length c0, .func (.func g) #[] lb] w fun e w' => ∃ (A1 : Option Addr) (c1 : Nat) (A2 : Option Addr) (c2 : Nat), e = .returned (.tuple #[.agg #[.int .i64 y.f0, .slice A1 y.f1.length c1, .slice A2 y.f2.length c2], .bool b]) ∧ Kd.V (Kd.int .i64) 3 w' w.heap.size P0_ (.slice A1 y.f1.length c1) y.f1 ∧ Kd.V k70 70 w' w.heap.size P0_ (.slice A2 y.f2.length c2) y.f2 ∧ Below w.heap.size w w' := by
 have hu45 := Try.underlying45
 have HI := aM (ixOf_find p l0 z45)
 have HX : Aside0 (∀ W, Below w.heap.size w W → Calls Try.prog 80 #[.slice A0 l0.length c0, .func (.func g) #[] lb] W fun e w' => e = .returned (.int .i64 (ixOf p l0)) ∧ Below W.heap.size W w') := ⟨fun W hW => ix80 p g lb eg A0 c0 l0 W (Kd.C_below (Kd.V_reads' hs0).2.2 hW) (fun W' x A1 c1 A2 c2 hb' => hp W' x A1 c1 A2 c2 (hW.trans (hb'.mono hW.size)))⟩
 have HV := aM hs0
 have hbig : l0.length ≤ 9223372036854775807 := (Kd.V_reads' hs0).2.2.2.1
 clear hs0 hp
 generalize l0.find? p = o at HI hy hb
 generalize ixOf p l0 = n at HI HX
 rcases HI.out with ⟨rfl, rfl⟩ | ⟨kk, rfl, hk, rfl⟩
 ·obtain rfl : y = z45 := hy
  obtain rfl : b = false := hb
  clear HI
  go_enter Try.func46, Try.ntmps46
  go_wp2_with (first | ((with_reducible refine gate_dst (N := 4) rfl ?_); refine bx (N := 4) (cs := #[.int .i64 0, .slice none 0 0, .slice none 0 0]) (t := 45) ?_; intro gr hg w3 hbox hb; have HB3 := aM hb; have BKr := aM hbox; have GEr := aM (Nat.le_of_eq hg.symm); clear hb hbox hg) | ((with_reducible refine gate_dst (N := 6) rfl ?_); refine bx (N := 6) (cs := #[.int .i64 0, .slice none 0 0, .slice none 0 0]) (t := 45) ?_; intro gz hg w4 hbox hb; have HB4 := aM (HB3.out.trans (hb.mono HB3.out.size)); have BKr4 := aM (kB BKr.out hb); have BKz := aM hbox; have NRZ := aM (by rw [hg]; exact Nat.ne_of_lt (blk_lt BKr.out) : gr ≠ gz); clear BKr HB3 hb hbox hg) | (go_at_call 80; refine (HX.out w4 HB4.out).mono ?_; rintro e w1 ⟨rfl, hb1⟩; have HB1 := aM (HB4.out.trans (hb1.mono HB4.out.size)); have BKr1 := aM (kB BKr4.out hb1); have BKz1 := aM (kB BKz.out hb1); have hcz0 : w1.cell? ⟨gz, 0, none⟩ = some (.int .i64 0) := (kC BKz1.out 0).trans rfl; have hfz0 := kF BKz1.out 0; have hcr0 : w1.cell? ⟨gr, 0, none⟩ = some (.int .i64 0) := (kC BKr1.out 0).trans rfl; have hfr0 := kF BKr1.out 0; have hcz1 : w1.cell? ⟨gz, 1, none⟩ = some (.slice none 0 0) := (kC BKz1.out 1).trans rfl; have hfz1 := kF BKz1.out 1; have hcr1 : w1.cell? ⟨gr, 1, none⟩ = some (.slice none 0 0) := (kC BKr1.out 1).trans rfl; have hfr1 := kF BKr1.out 1; have hcz2 : w1.cell? ⟨gz, 2, none⟩ = some (.slice none 0 0) := (kC BKz1.out 2).trans rfl; have hfz2 := kF BKz1.out 2; have hcr2 : w1.cell? ⟨gr, 2, none⟩ = some (.slice none 0 0) := (kC BKr1.out 2).trans rfl; have hfr2 := kF BKr1.out 2; have hnrz := NRZ.out; clear hb1) | go_in)
  refine bodyPost_ret (results_ct rfl _ _ gr 45 #[.int .i64 0, .slice none 0 0, .slice none 0 0] (0, 0) _ rfl (by (with_reducible repeat (first | refine kN ?_ _ | refine kD ?_ | refine kA ?_ _)); refine kP (cs := #[.int .i64 0, .slice none 0 0, .slice none 0 0]) ?_ 2 _ rfl; (with_reducible repeat (first | refine kN ?_ _ | refine kD ?_ | refine kA ?_ _)); refine kP (cs := #[.int .i64 0, .slice none 0 0, .slice none 0 0]) ?_ 1 _ rfl; (with_reducible repeat (first | refine kN ?_ _ | refine kD ?_ | refine kA ?_ _)); refine kP (cs := #[.int .i64 0, .slice none 0 0, .slice none 0 0]) ?_ 0 _ rfl; (with_reducible repeat (first | refine kN ?_ _ | refine kD ?_ | refine kA ?_ _)); exact BKr1.out) Try.underlying45 rfl (by kernel_rfl)) rfl ?_
  exact ⟨none, 0, none, 0, rfl, Kd.V_nil _ _ _ _ _, Kd.V_nil _ _ _ _ _, bl⟩
 ·replace hy : y = l0.getD kk z45 := hy
  obtain rfl : b = true := hb
  clear HI
  have hk0 : (0 : Int) ≤ (kk : Int) := Int.natCast_nonneg kk
  have hkl : (kk : Int) < (l0.length : Int) := by omega
  go_enter Try.func46, Try.ntmps46
  go_upto_region 4 with (first | ((with_reducible refine gate_dst (N := 4) rfl ?_); refine bx (N := 4) (cs := #[.int .i64 0, .slice none 0 0, .slice none 0 0]) (t := 45) ?_; intro gr hg w3 hbox hb; have HB3 := aM hb; have BKr := aM hbox; have GEr := aM (Nat.le_of_eq hg.symm); clear hb hbox hg) | ((with_reducible refine gate_dst (N := 6) rfl ?_); refine bx (N := 6) (cs := #[.int .i64 0, .slice none 0 0, .slice none 0 0]) (t := 45) ?_; intro gz hg w4 hbox hb; have HB4 := aM (HB3.out.trans (hb.mono HB3.out.size)); have BKr4 := aM (kB BKr.out hb); have BKz := aM hbox; have NRZ := aM (by rw [hg]; exact Nat.ne_of_lt (blk_lt BKr.out) : gr ≠ gz); clear BKr HB3 hb hbox hg) | (go_at_call 80; refine (HX.out w4 HB4.out).mono ?_; rintro e w1 ⟨rfl, hb1⟩; have HB1 := aM (HB4.out.trans (hb1.mono HB4.out.size)); have BKr1 := aM (kB BKr4.out hb1); have BKz1 := aM (kB BKz.out hb1); clear hb1) | go_in)
  have HV1 := aM (Kd.V_below (Kd.V_elderB HV.out gr GEr.out) HB1.out)
  obtain ⟨ad, A1, c1, A2, c2, e0, hx0, hx1, hx2, hl1, hi1, hl2, hi2⟩ := at_T45 (Kd.V_reads' HV1.out).2.2 (kk : Int) hk0 hkl
  cases e0
  obtain ⟨ce, hce, hMe, hcc⟩ := Kd.V_get HV1.out z45 (kk : Int) hk0 hkl
  obtain ⟨ua1, uc1, ua2, uc2, rfl, ul1, ge1, ul2, ge2⟩ := k45_openF hMe
  have hv1 := hcc 1 _ rfl
  rw [add_field _ _ 1 (by omega)] at hv1
  replace hv1 := Option.some.inj (hv1.symm.trans hx1)
  injection hv1 with hva_ hvn_ hvc_
  rw [hva_] at ge1
  rw [hvc_] at ul1
  have hS1 := (show Kd.V (Kd.int .i64) 3 w1 w.heap.size _ (.slice A1 (rd_T45 l0 (kk : Int)).f1.length c1) ((rd_T45 l0 (kk : Int)).f1) from Kd.V_mk ul1 ge1)
  clear hva_ hvn_ hvc_ ge1 ul1
  have hv2 := hcc 2 _ rfl
  rw [add_field _ _ 2 (by omega)] at hv2
  replace hv2 := Option.some.inj (hv2.symm.trans hx2)
  injection hv2 with hva_ hvn_ hvc_
  rw [hva_] at ge2
  rw [hvc_] at ul2
  have hS2 := (show Kd.V k70 70 w1 w.heap.size _ (.slice A2 (rd_T45 l0 (kk : Int)).f2.length c2) ((rd_T45 l0 (kk : Int)).f2) from Kd.V_mk ul2 ge2)
  clear hva_ hvn_ hvc_ ge2 ul2 hcc hce hl1 hi1 hl2 hi2
  have hry : rd_T45 l0 (kk : Int) = y := by unfold rd_T45; rw [Int.toNat_natCast, hy]
  rw [hry] at hx0 hx1 hx2 hS1 hS2
  rw [Int.toNat_natCast] at hx0 hx1 hx2
  have HS1 := aM hS1; have HS2 := aM hS2
  clear hS1 hS2 hry hMe hy
  have hcr0 : w1.cell? ⟨gr, 0, none⟩ = some (.int .i64 0) := (kC BKr1.out 0).trans rfl; have hfr0 := kF BKr1.out 0; have hcr1 : w1.cell? ⟨gr, 1, none⟩ = some (.slice none 0 0) := (kC BKr1.out 1).trans rfl; have hfr1 := kF BKr1.out 1; have hcr2 : w1.cell? ⟨gr, 2, none⟩ = some (.slice none 0 0) := (kC BKr1.out 2).trans rfl; have hfr2 := kF BKr1.out 2
  have hkr : IntKind.i64.wrap (kk : Int) = (kk : Int) := by rw [IntKind.wrap_i64]; omega
  go_wp2
  refine bodyPost_ret (results_ct rfl _ _ gr 45 #[.int .i64 y.f0, .slice A1 y.f1.length c1, .slice A2 y.f2.length c2] (0, 0) _ rfl (by (with_reducible repeat (first | refine kN ?_ _ | refine kD ?_ | refine kA ?_ _)); refine kP (cs := #[.int .i64 y.f0, .slice A1 y.f1.length c1, .slice none 0 0]) ?_ 2 _ rfl; (with_reducible repeat (first | refine kN ?_ _ | refine kD ?_ | refine kA ?_ _)); refine kP (cs := #[.int .i64 y.f0, .slice none 0 0, .slice none 0 0]) ?_ 1 _ rfl; (with_reducible repeat (first | refine kN ?_ _ | refine kD ?_ | refine kA ?_ _)); refine kP (cs := #[.int .i64 0, .slice none 0 0, .slice none 0 0]) ?_ 0 _ rfl; (with_reducible repeat (first | refine kN ?_ _ | refine kD ?_ | refine kA ?_ _)); exact BKr1.out) Try.underlying45 rfl (by kernel_rfl)) rfl ?_
  exact ⟨A1, c1, A2, c2, rfl, by (with_reducible repeat (first | apply Kd.V_alloc | apply Kd.V_drewN | apply Kd.V_drew)); exact Kd.V_mono (Kd.V_far (p := ⟨gr, 2, none⟩) (Kd.V_far (p := ⟨gr, 1, none⟩) (Kd.V_far (p := ⟨gr, 0, none⟩) HS1.out (fun _ hk => hk.2) (.int .i64 y.f0)) (fun _ hk => hk.2) (.slice A1 y.f1.length c1)) (fun _ hk => hk.2) (.slice A2 y.f2.length c2)) (fun _ hk => hk.1), by (with_reducible repeat (first | apply Kd.V_alloc | apply Kd.V_drewN | apply Kd.V_drew)); exact Kd.V_mono (Kd.V_far (p := ⟨gr, 2, none⟩) (Kd.V_far (p := ⟨gr, 1, none⟩) (Kd.V_far (p := ⟨gr, 0, none⟩) HS2.out (fun _ hk => hk.2) (.int .i64 y.f0)) (fun _ hk => hk.2) (.slice A1 y.f1.length c1)) (fun _ hk => hk.2) (.slice A2 y.f2.length c2)) (fun _ hk => hk.1), bl⟩
theorem closure47 (a1 : Int) (B : Nat) (w : World) (hB : B < w.heap.size) (hcell : w.cell? ⟨B, 0, none⟩ = some (.int .i64 a1)) (W : World) (x : S45) (A1 : Option Addr) (c1 : Nat) (A2 : Option Addr) (c2 : Nat) (hb : Below w.heap.size w W) :
  Calls Try.prog 47 (#[.agg #[.int .i64 x.f0, .slice A1 x.f1.length c1, .slice A2 x.f2.length c2]] ++ #[.pointer (some ⟨B, 0, none⟩)]) W fun e w' => e = .returned (.bool (x.f0 == a1)) ∧ Below W.heap.size W w' := by
 have hu45 := Try.underlying45
 have hc : W.cell? ⟨B, 0, none⟩ = some (.int .i64 a1) := (hb.cell (p := ⟨B, 0, none⟩) hB).trans hcell
 have hBW : B < W.heap.size := Nat.lt_of_lt_of_le hB hb.size
 have hne : B ≠ W.heap.size := by omega
 have HB := aM (Below.refl W.heap.size W)
 clear hb hcell
 show Calls Try.prog 47 #[.agg #[.int .i64 x.f0, .slice A1 x.f1.length c1, .slice A2 x.f2.length c2], .pointer (some ⟨B, 0, none⟩)] W _
 go_enter Try.func47, Try.ntmps47
 go_wp2
 go_ret
 exact ⟨rfl, by repeat (first | (with_reducible first | exact HB.out | apply bN | apply bD) | (refine (HB.out.alloc HB.out.size _)))⟩
def data_Way.f (l0_0 : List S39) (l0_1 : List S45) (l0_2 : List S51) (a1 : Int) : Option (Int × List Int × (List (S70)) × Bool) := some (((l0_1.find? (fun x => x.f0 == a1)).getD z45).f0, ((l0_1.find? (fun x => x.f0 == a1)).getD z45).f1, ((l0_1.find? (fun x => x.f0 == a1)).getD z45).f2, (l0_1.find? (fun x => x.f0 == a1)).isSome)
set_option maxHeartbeats 8000000 in
set_option maxRecDepth 100000 in
theorem data_Way.calls (A0_0 : Option Addr) (c0_0 : Nat) (l0_0 : List (S39)) (P0_1_ : Nat → Prop) (A0_1 : Option Addr) (c0_1 : Nat) (l0_1 : List (S45)) (A0_2 : Option Addr) (c0_2 : Nat) (l0_2 : List (S51)) (a1 : Int) (r1 : Int) (r2 : List Int) (r3 : (List (S70))) (r4 : Bool) (w : World) (hr0_0 : Kd.C k39 w A0_0 l0_0.length l0_0) (hc0_0 : l0_0.length ≤ c0_0) (hs0_1 : Kd.V k45 45 w w.heap.size (fun k_ => P0_1_ k_) (.slice A0_1 l0_1.length c0_1) l0_1) (hr0_2 : Kd.C k51 w A0_2 l0_2.length l0_2) (hc0_2 : l0_2.length ≤ c0_2) (h : data_Way.f l0_0 l0_1 l0_2 a1 = some (r1, r2, r3, r4)) :
  Calls Try.prog 15 #[.agg #[.slice A0_0 l0_0.length c0_0, .slice A0_1 l0_1.length c0_1, .slice A0_2 l0_2.length c0_2], .int .i64 a1] w fun e w' => ∃ (v1_ : Value) (v2_ : Value), e = .returned (.tuple #[.agg #[.int .i64 r1, v1_, v2_], .bool r4]) ∧ Kd.V (Kd.int .i64) 3 w' w.heap.size (fun k_ => (P0_1_ k_ ∨ w.heap.size ≤ k_)) v1_ r2 ∧ Kd.V k70 70 w' w.heap.size (fun k_ => (P0_1_ k_ ∨ w.heap.size ≤ k_)) v2_ r3 ∧ Below w.heap.size w w' := by
 have hu26 := Try.underlying26
 have hu45 := Try.underlying45
 obtain ⟨y, hy⟩ : ∃ y, y = (l0_1.find? (fun x => x.f0 == a1)).getD z45 := ⟨_, rfl⟩
 obtain ⟨b, hbb⟩ : ∃ b, b = (l0_1.find? (fun x => x.f0 == a1)).isSome := ⟨_, rfl⟩
 have HY := aM hy
 have HBB := aM hbb
 unfold data_Way.f at h
 rw [← hy, ← hbb] at h
 simp only [Option.some.injEq, Prod.mk.injEq] at h
 obtain ⟨rfl, rfl, rfl, rfl⟩ := h
 clear hy hbb
 have eg : ∀ args w, (callFunc 47 args).run Try.prog w = .ok (.enter 47 args) w := enters_of Try.func47 (by kernel_rfl) rfl
 have HS := aM (show Kd.V k45 45 w w.heap.size (fun k_ => P0_1_ k_) (.slice A0_1 l0_1.length c0_1) l0_1 from hs0_1)
 have HB := aM (Below.refl w.heap.size w)
 clear hs0_1 hr0_0 hr0_2
 go_enter Try.func15, Try.ntmps15
 go_upto_region 1 with (first | ((with_reducible refine gate_dst (N := 2) rfl ?_); refine bx (N := 2) (cs := #[.slice A0_0 l0_0.length c0_0, .slice A0_1 l0_1.length c0_1, .slice A0_2 l0_2.length c0_2]) (t := 26) ?_; intro gd hg w1 hbox hb; have HB1 := aM hb; have BKd := aM hbox; have GEd := aM (Nat.le_of_eq hg.symm); clear hb hbox hg) | ((with_reducible refine gate_dst (N := 3) rfl ?_); refine bx (N := 3) (cs := #[.int .i64 a1]) (t := 3) ?_; intro gi hg w2 hbox hb; have HB2 := aM (HB1.out.trans (hb.mono HB1.out.size)); have BKd2 := aM (kB BKd.out hb); have BKi := aM hbox; have NDI := aM (by rw [hg]; exact Nat.ne_of_lt (blk_lt BKd.out) : gd ≠ gi); clear BKd HB1 hb hbox hg) | ((with_reducible refine gate_dst (N := 4) rfl ?_); refine bx (N := 4) (cs := #[.int .i64 0, .slice none 0 0, .slice none 0 0]) (t := 45) ?_; intro gr hg w3 hbox hb; have HB3 := aM (HB2.out.trans (hb.mono HB2.out.size)); have BKd3 := aM (kB BKd2.out hb); have BKi3 := aM (kB BKi.out hb); have BKr := aM hbox; have GEr := aM (by rw [hg]; exact HB2.out.size : w.heap.size ≤ gr); have NDR := aM (by rw [hg]; exact Nat.ne_of_lt (blk_lt BKd2.out) : gd ≠ gr); have NIR := aM (by rw [hg]; exact Nat.ne_of_lt (blk_lt BKi.out) : gi ≠ gr); clear BKd2 BKi HB2 hb hbox hg) | go_in)
 have HF := aM (find46 (fun x => x.f0 == a1) 47 #[.pointer (some ⟨gi, 0, none⟩)] eg (fun k_ => P0_1_ k_ ∧ k_ ≠ gr) A0_1 c0_1 l0_1 w3 (Kd.V_below (Kd.V_elderB HS.out gr GEr.out) HB3.out) (closure47 a1 gi w3 (blk_lt BKi3.out) ((kC BKi3.out 0).trans rfl)) y b HY.out HBB.out)
 have hcd1 : w3.cell? ⟨gd, 1, none⟩ = some (.slice A0_1 l0_1.length c0_1) := (kC BKd3.out 1).trans rfl
 have hfd := kF BKd3.out 1
 go_wp2_with (first | (go_at_call 46; refine HF.out.mono ?_; rintro e w4 ⟨A1, c1, A2, c2, rfl, hv1, hv2, hb4⟩; have HW1 := aM hv1; have HW2 := aM hv2; have HB4 := aM (HB3.out.trans (hb4.mono HB3.out.size)); have BKr4 := aM (kB BKr.out hb4); have hcr0 : w4.cell? ⟨gr, 0, none⟩ = some (.int .i64 0) := (kC BKr4.out 0).trans rfl; have hfr0 := kF BKr4.out 0; have hcr1 : w4.cell? ⟨gr, 1, none⟩ = some (.slice none 0 0) := (kC BKr4.out 1).trans rfl; have hfr1 := kF BKr4.out 1; have hcr2 : w4.cell? ⟨gr, 2, none⟩ = some (.slice none 0 0) := (kC BKr4.out 2).trans rfl; have hfr2 := kF BKr4.out 2; clear hb4 hv1 hv2) | go_in)
 refine bodyPost_ret (results_ct rfl _ _ gr 45 #[.int .i64 y.f0, .slice A1 y.f1.length c1, .slice A2 y.f2.length c2] (0, 0) _ rfl (by (with_reducible repeat (first | refine kN ?_ _ | refine kD ?_ | refine kA ?_ _)); refine kP (cs := #[.int .i64 y.f0, .slice A1 y.f1.length c1, .slice none 0 0]) ?_ 2 _ rfl; (with_reducible repeat (first | refine kN ?_ _ | refine kD ?_ | refine kA ?_ _)); refine kP (cs := #[.int .i64 y.f0, .slice none 0 0, .slice none 0 0]) ?_ 1 _ rfl; (with_reducible repeat (first | refine kN ?_ _ | refine kD ?_ | refine kA ?_ _)); refine kP (cs := #[.int .i64 0, .slice none 0 0, .slice none 0 0]) ?_ 0 _ rfl; (with_reducible repeat (first | refine kN ?_ _ | refine kD ?_ | refine kA ?_ _)); exact BKr4.out) Try.underlying45 rfl (by kernel_rfl)) rfl ?_
 exact ⟨.slice A1 y.f1.length c1, .slice A2 y.f2.length c2, rfl, by (with_reducible repeat (first | apply Kd.V_alloc | apply Kd.V_drewN | apply Kd.V_drew)); exact Kd.V_mono (Kd.V_far (p := ⟨gr, 2, none⟩) (Kd.V_far (p := ⟨gr, 1, none⟩) (Kd.V_far (p := ⟨gr, 0, none⟩) HW1.out (fun _ hk => hk.2) (.int .i64 y.f0)) (fun _ hk => hk.2) (.slice A1 y.f1.length c1)) (fun _ hk => hk.2) (.slice A2 y.f2.length c2)) (fun _ hk => .inl hk.1), by (with_reducible repeat (first | apply Kd.V_alloc | apply Kd.V_drewN | apply Kd.V_drew)); exact Kd.V_mono (Kd.V_far (p := ⟨gr, 2, none⟩) (Kd.V_far (p := ⟨gr, 1, none⟩) (Kd.V_far (p := ⟨gr, 0, none⟩) HW2.out (fun _ hk => hk.2) (.int .i64 y.f0)) (fun _ hk => hk.2) (.slice A1 y.f1.length c1)) (fun _ hk => hk.2) (.slice A2 y.f2.length c2)) (fun _ hk => .inl hk.1), bl⟩
end Go.Proofs.Ytgenbepicnbecaa.PAll
