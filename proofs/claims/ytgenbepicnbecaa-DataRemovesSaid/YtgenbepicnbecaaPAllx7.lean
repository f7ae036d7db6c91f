-- out of a driver of this session's prover over the kit's print: Lean checks it
import Derived.Test.YtgenbepicnbecaaPAllx0
import Derived.Test.YtgenbepicnbecaaPAllx6
namespace Go.Proofs.Ytgenbepicnbecaa.PAll
open Go.Proofs.YtgenbepicnbecaaG Go.Shelf Go.Lib
open Go.RowKit Go.Proofs.YtgenbepicnbecaaW.PrintWords Go.Proofs.YtgenbepicnbecaaW.PrintLast Go.Proofs.YtgenbepicnbecaaW.PrintMore
attribute [local go_sem] max2_int min2_int max_two min_two max_three min_three max_four min_four   -- for this text's walks alone
set_option linter.unusedVariables false
set_option linter.unusedSimpArgs false
mutual
def data_checker_checkNodes.l0 : Nat → List (S39) → Int → Int → List (S39) → List (S45) → List (S51) → Option (Int)
 | 0, _, _, _, _, _, _ => none
 | k + 1, x8, x9, x10, x113000, x113001, x113002 => if x10 < x9 then (if 0 ≤ x10 then (if x10 < (x8.length : Int) then ((data_ids_by_data_checker_checkNodes_1.f x10 x113000 x113001 x113002).bind fun t115 => (if t115 = 0 then (if ((rd_T39 x8 x10).f1.f0) < (-1800000000) then (data_checker_checkNodes.j1 k t115 x8 x9 x10 true x113000 x113001 x113002 ((rd_T39 x8 x10).f0) ((rd_T39 x8 x10).f1.f0) ((rd_T39 x8 x10).f1.f1) ((rd_T39 x8 x10).f2)) else (if ((rd_T39 x8 x10).f1.f0) > 1800000000 then (data_checker_checkNodes.j1 k t115 x8 x9 x10 true x113000 x113001 x113002 ((rd_T39 x8 x10).f0) ((rd_T39 x8 x10).f1.f0) ((rd_T39 x8 x10).f1.f1) ((rd_T39 x8 x10).f2)) else (if ((rd_T39 x8 x10).f1.f1) < (-900000000) then (data_checker_checkNodes.j1 k t115 x8 x9 x10 true x113000 x113001 x113002 ((rd_T39 x8 x10).f0) ((rd_T39 x8 x10).f1.f0) ((rd_T39 x8 x10).f1.f1) ((rd_T39 x8 x10).f2)) else (data_checker_checkNodes.j1 k t115 x8 x9 x10 (decide (((rd_T39 x8 x10).f1.f1) > 900000000)) x113000 x113001 x113002 ((rd_T39 x8 x10).f0) ((rd_T39 x8 x10).f1.f0) ((rd_T39 x8 x10).f1.f1) ((rd_T39 x8 x10).f2))))) else (data_checker_checkNodes.j1 k t115 x8 x9 x10 false x113000 x113001 x113002 ((rd_T39 x8 x10).f0) ((rd_T39 x8 x10).f1.f0) ((rd_T39 x8 x10).f1.f1) ((rd_T39 x8 x10).f2)))) else (none)) else (none)) else (some 0)
def data_checker_checkNodes.j1 : Nat → Int → List (S39) → Int → Int → Bool → List (S39) → List (S45) → List (S51) → Int → Int → Int → List (S70) → Option (Int)
 | 0, _, _, _, _, _, _, _, _, _, _, _, _ => none
 | k + 1, x5, x8, x9, x10, x43, x113000, x113001, x113002, x115000, x115001, x115002, x115003 => if x43 = true then (data_checker_checkNodes.j2 k 11 x8 x9 x10 x113000 x113001 x113002 x115000 x115001 x115002 x115003) else (data_checker_checkNodes.j2 k x5 x8 x9 x10 x113000 x113001 x113002 x115000 x115001 x115002 x115003)
def data_checker_checkNodes.j2 : Nat → Int → List (S39) → Int → Int → List (S39) → List (S45) → List (S51) → Int → Int → Int → List (S70) → Option (Int)
 | 0, _, _, _, _, _, _, _, _, _, _, _ => none
 | k + 1, x5, x8, x9, x10, x113000, x113001, x113002, x115000, x115001, x115002, x115003 => if x5 = 0 then ((tags_Check.f k x115003).bind fun t116 => (if t116 = 0 then (data_checker_checkNodes.l0 k x8 x9 (wrap64 (x10 + 1)) x113000 x113001 x113002) else (some t116))) else (some x5)
end
def data_checker_checkNodes.f (k : Nat) (l0_0 : List (S39)) (l0_1 : List (S45)) (l0_2 : List (S51)) : Option (Int) := data_checker_checkNodes.l0 k l0_0 (l0_0.length : Int) 0 l0_0 l0_1 l0_2
theorem data_checker_checkNodes.mono_l : ∀ k, (∀ y0 y1 y2 y3 y4 y5, LeO (data_checker_checkNodes.l0 k y0 y1 y2 y3 y4 y5) (data_checker_checkNodes.l0 (k + 1) y0 y1 y2 y3 y4 y5)) ∧ (∀ y0 y1 y2 y3 y4 y5 y6 y7 y8 y9 y10 y11, LeO (data_checker_checkNodes.j1 k y0 y1 y2 y3 y4 y5 y6 y7 y8 y9 y10 y11) (data_checker_checkNodes.j1 (k + 1) y0 y1 y2 y3 y4 y5 y6 y7 y8 y9 y10 y11)) ∧ (∀ y0 y1 y2 y3 y4 y5 y6 y7 y8 y9 y10, LeO (data_checker_checkNodes.j2 k y0 y1 y2 y3 y4 y5 y6 y7 y8 y9 y10) (data_checker_checkNodes.j2 (k + 1) y0 y1 y2 y3 y4 y5 y6 y7 y8 y9 y10))
 | 0 => ⟨fun _ _ _ _ _ _ r h => by simp [data_checker_checkNodes.l0] at h, fun _ _ _ _ _ _ _ _ _ _ _ _ r h => by simp [data_checker_checkNodes.j1] at h, fun _ _ _ _ _ _ _ _ _ _ _ r h => by simp [data_checker_checkNodes.j2] at h⟩
 | k + 1 => by
  obtain ⟨ih0, ih1, ih2⟩ := data_checker_checkNodes.mono_l k
  refine ⟨?_, ?_, ?_⟩
  ·intro y0 y1 y2 y3 y4 y5
   unfold data_checker_checkNodes.l0
   repeat' first
   | (with_reducible exact ih0 _ _ _ _ _ _)
   | (with_reducible exact ih1 _ _ _ _ _ _ _ _ _ _ _ _)
   | (with_reducible exact ih2 _ _ _ _ _ _ _ _ _ _ _)
   | (with_reducible exact tags_Check.mono _ _)
   | (with_reducible exact LeO.refl _)
   | (with_reducible exact LeO.none _)
   | (with_reducible refine LeO.ite ?_ ?_)
   | (with_reducible refine LeO.bind ?_ (fun _ => ?_))
   | exact ih0 _ _ _ _ _ _
   | exact ih1 _ _ _ _ _ _ _ _ _ _ _ _
   | exact ih2 _ _ _ _ _ _ _ _ _ _ _
   | exact tags_Check.mono _ _
   | exact LeO.none _
   | refine LeO.ite ?_ ?_
   | refine LeO.bind ?_ (fun _ => ?_)
  ·intro y0 y1 y2 y3 y4 y5 y6 y7 y8 y9 y10 y11
   unfold data_checker_checkNodes.j1
   repeat' first
   | (with_reducible exact ih0 _ _ _ _ _ _)
   | (with_reducible exact ih1 _ _ _ _ _ _ _ _ _ _ _ _)
   | (with_reducible exact ih2 _ _ _ _ _ _ _ _ _ _ _)
   | (with_reducible exact tags_Check.mono _ _)
   | (with_reducible exact LeO.refl _)
   | (with_reducible exact LeO.none _)
   | (with_reducible refine LeO.ite ?_ ?_)
   | (with_reducible refine LeO.bind ?_ (fun _ => ?_))
   | exact ih0 _ _ _ _ _ _
   | exact ih1 _ _ _ _ _ _ _ _ _ _ _ _
   | exact ih2 _ _ _ _ _ _ _ _ _ _ _
   | exact tags_Check.mono _ _
   | exact LeO.none _
   | refine LeO.ite ?_ ?_
   | refine LeO.bind ?_ (fun _ => ?_)
  ·intro y0 y1 y2 y3 y4 y5 y6 y7 y8 y9 y10
   unfold data_checker_checkNodes.j2
   repeat' first
   | (with_reducible exact ih0 _ _ _ _ _ _)
   | (with_reducible exact ih1 _ _ _ _ _ _ _ _ _ _ _ _)
   | (with_reducible exact ih2 _ _ _ _ _ _ _ _ _ _ _)
   | (with_reducible exact tags_Check.mono _ _)
   | (with_reducible exact LeO.refl _)
   | (with_reducible exact LeO.none _)
   | (with_reducible refine LeO.ite ?_ ?_)
   | (with_reducible refine LeO.bind ?_ (fun _ => ?_))
   | exact ih0 _ _ _ _ _ _
   | exact ih1 _ _ _ _ _ _ _ _ _ _ _ _
   | exact ih2 _ _ _ _ _ _ _ _ _ _ _
   | exact tags_Check.mono _ _
   | exact LeO.none _
   | refine LeO.ite ?_ ?_
   | refine LeO.bind ?_ (fun _ => ?_)
theorem data_checker_checkNodes.mono : ∀ a0 a1 a2 k, LeO (data_checker_checkNodes.f k a0 a1 a2) (data_checker_checkNodes.f (k + 1) a0 a1 a2) := by
 intro a0 a1 a2 k
 obtain ⟨ih0, ih1, ih2⟩ := data_checker_checkNodes.mono_l k
 unfold data_checker_checkNodes.f
 repeat' first
   | (with_reducible exact ih0 _ _ _ _ _ _)
   | (with_reducible exact ih1 _ _ _ _ _ _ _ _ _ _ _ _)
   | (with_reducible exact ih2 _ _ _ _ _ _ _ _ _ _ _)
   | (with_reducible exact tags_Check.mono _ _)
   | (with_reducible exact LeO.refl _)
   | (with_reducible exact LeO.none _)
   | (with_reducible refine LeO.ite ?_ ?_)
   | (with_reducible refine LeO.bind ?_ (fun _ => ?_))
   | exact ih0 _ _ _ _ _ _
   | exact ih1 _ _ _ _ _ _ _ _ _ _ _ _
   | exact ih2 _ _ _ _ _ _ _ _ _ _ _
   | exact tags_Check.mono _ _
   | exact LeO.none _
   | refine LeO.ite ?_ ?_
   | refine LeO.bind ?_ (fun _ => ?_)
set_option maxHeartbeats 8000000 in
set_option maxRecDepth 100000 in
theorem data_checker_checkNodes.calls (k M1 M2 : Nat) (A0_0 : Option Addr) (c0_0 : Nat) (l0_0 : List (S39)) (A0_1 : Option Addr) (c0_1 : Nat) (l0_1 : List (S45)) (A0_2 : Option Addr) (c0_2 : Nat) (l0_2 : List (S51)) (r : Int) (w : World) (hr0_0 : Kd.C k39 w A0_0 l0_0.length l0_0) (hc0_0 : l0_0.length ≤ c0_0) (hr0_1 : Kd.C k45 w A0_1 l0_1.length l0_1) (hc0_1 : l0_1.length ≤ c0_1) (hr0_2 : Kd.C k51 w A0_2 l0_2.length l0_2) (hc0_2 : l0_2.length ≤ c0_2) (hm1 : HasIds w M1 (l0_0.map (fun x => x.f0))) (hm2 : HasIds w M2 (l0_1.map (fun x => x.f0))) (h : data_checker_checkNodes.f k l0_0 l0_1 l0_2 = some r) :
  Calls Try.prog 37 #[.agg #[.slice A0_0 l0_0.length c0_0, .slice A0_1 l0_1.length c0_1, .slice A0_2 l0_2.length c0_2, .map (some M1), .map (some M2)]] w fun e w' => e = .returned (.int .i64 r) ∧ Below w.heap.size w w' := by
 have hu26 := Try.underlying26
 have hu39 := Try.underlying39
 have HR0_0 := aM hr0_0
 have HC0_0 := aM hc0_0
 clear hr0_0 hc0_0
 have HR0_1 := aM hr0_1
 have HC0_1 := aM hc0_1
 clear hr0_1 hc0_1
 have HR0_2 := aM hr0_2
 have HC0_2 := aM hc0_2
 clear hr0_2 hc0_2
 have HB := aM (Below.refl w.heap.size w)
 have HM1 := aM hm1
 have HM2 := aM hm2
 clear hm1 hm2
 have hu73 := Try.underlying73
 have H : (data_checker_checkNodes.l0 k l0_0 (l0_0.length : Int) 0 l0_0 l0_1 l0_2) = some r := h
 clear h
 have H' := aM H
 clear H
 go_enter Try.func37, Try.ntmps37
 go_wp2_with (first | ((with_reducible refine gate_dst (N := 1) rfl ?_); refine bx (N := 1) (cs := #[.slice A0_0 l0_0.length c0_0, .slice A0_1 l0_1.length c0_1, .slice A0_2 l0_2.length c0_2, .map (some M1), .map (some M2)]) (t := 73) ?_; intro gb112 hg w2 hbox hb; have BK112 := aM (hbox); have GE112 := aM (gw (w := w) hg); replace HB := aM (bS (bl) hb); clear hb hbox hg; have hcz3_0 : w2.cell? ⟨gb112, 0, none⟩ = some (.slice A0_0 l0_0.length c0_0) := (kC BK112.out 0).trans rfl; have hcz3_1 : w2.cell? ⟨gb112, 1, none⟩ = some (.slice A0_1 l0_1.length c0_1) := (kC BK112.out 1).trans rfl; have hcz3_2 : w2.cell? ⟨gb112, 2, none⟩ = some (.slice A0_2 l0_2.length c0_2) := (kC BK112.out 2).trans rfl; have hfz3_0 := kF BK112.out 0; have hfz3_1 := kF BK112.out 1; have hfz3_2 := kF BK112.out 2))
 go_loopg [10] k (fun kq v10 w' => ∃ (x10_1 : Int), v10 = .int .i64 x10_1 ∧ Aside0 (data_checker_checkNodes.l0 kq l0_0 (l0_0.length : Int) x10_1 l0_0 l0_1 l0_2 = some r) ∧ Aside0 (kq ≤ k) ∧ Aside0 (w'.heap[gb112]? = some (.cells #[(.slice A0_0 l0_0.length c0_0), (.slice A0_1 l0_1.length c0_1), (.slice A0_2 l0_2.length c0_2), .map (some M1), .map (some M2)] 73 (0, 0))) ∧ Aside0 (Below w.heap.size w w'))
 case atStart => exact ⟨(0), (by first | rfl | (simp; done) | (simp [*]; done)), H', ⟨Nat.le_refl _⟩, ⟨by (with_reducible repeat (first | refine kN ?_ _ | refine kD ?_ | refine kA ?_ _)); exact BK112.out⟩, ⟨bl⟩⟩
 case round =>
  clear H'
  try clear p2
  try clear c3
  try clear hcz3_0 hcz3_1 hcz3_2 hfz3_0 hfz3_1 hfz3_2
  obtain ⟨x10_1, rfl, HA, HK1, BK112, HB⟩ := hrel
  cases gk with
  | zero => exact absurd HA.out (by simp [data_checker_checkNodes.l0])
  | succ k1 =>
   have H := HA.out
   clear HA
   simp only [data_checker_checkNodes.l0] at H
   by_cases c4 : x10_1 < (l0_0.length : Int)
   ·rw [if_pos c4] at H
    have c4b0 : decide (x10_1 < (l0_0.length : Int)) = true := decide_eq_true c4
    clear c4
    by_cases c5 : 0 ≤ x10_1
    ·rw [if_pos c5] at H
     have c5b0 : decide (0 ≤ x10_1) = true := decide_eq_true c5
     clear c5
     by_cases c6 : x10_1 < (l0_0.length : Int)
     ·rw [if_pos c6] at H
      have c6b0 : decide (x10_1 < (l0_0.length : Int)) = true := decide_eq_true c6
      clear c6
      replace H := Option.bind_eq_some_iff.mp H
      obtain ⟨t115, A70, H⟩ := H
      try dsimp only at H
      have A7 := aM A70
      clear A70
      have HC8 := aM H
      clear H
      have p113 : 0 ≤ (x10_1 : Int) := oT
      have q113 : x10_1 < (l0_0.length : Int) := oT
      obtain ⟨ad113, A113_3, c113_3, e113, hx113_0, hx113_1, hx113_2, hx113_3, hl113_3, hi113_3⟩ := at_T39 HR0_0.out x10_1 p113 q113
      cases e113
      replace hx113_0 := hs HB.out hx113_0
      replace hx113_1 := hs HB.out hx113_1
      replace hx113_2 := hs HB.out hx113_2
      replace hx113_3 := hs HB.out hx113_3
      have HR113_3 := aM hi113_3
      have HC113_3 := aM hl113_3
      clear hi113_3 hl113_3
      replace p113 := eq_true p113
      replace q113 := eq_true q113
      go_upto_region 5 with (first | ((with_reducible refine gate_dst (N := 4) rfl ?_); refine bx (N := 4) (cs := #[.int .i64 0, .int .i64 0, .int .i64 0, .slice none 0 0]) (t := 39) ?_; intro gb114 hg w9 hbox hb; have n0_ := aM (kB (kl BK112) hb); have n1_ := aM (bS (bl) hb); have n2_ := aM (hbox); have n4_ := aM (gw (w := w) hg); have n5_ := aM (nb BK112 hg); have n6_ := aM (nb BK112 hg).symm; (try clear BK112); (try clear HB); have BK112 := n0_; have HB := n1_; have BK114 := n2_; have GE114 := n4_; have NB112_114 := n5_; have NB114_112 := n6_; clear n0_ n1_ n2_ n4_ n5_ n6_ hb hbox hg; have hnb10 := NB114_112.out; have hnc10 := NB112_114.out; obtain ⟨hcz11_0, hcz11_1, hcz11_2, hcz11_3, hfz11_0, hfz11_1, hfz11_2, hfz11_3⟩ := bc4 BK114; have hcz12_0 : w9.cell? ⟨gb112, 0, none⟩ = some (.slice (some ad113) l0_0.length c0_0) := (kC BK112.out 0).trans rfl; have hcz12_1 : w9.cell? ⟨gb112, 1, none⟩ = some (.slice A0_1 l0_1.length c0_1) := (kC BK112.out 1).trans rfl; have hcz12_2 : w9.cell? ⟨gb112, 2, none⟩ = some (.slice A0_2 l0_2.length c0_2) := (kC BK112.out 2).trans rfl; have hfz12_0 := kF BK112.out 0; have hfz12_1 := kF BK112.out 1; have hfz12_2 := kF BK112.out 2) | ((with_reducible refine gate_callee (f := 69) rfl ?_); refine gL (some 17) Try.func69 #[.int .i64 x10_1, .func (.func 70) #[] #[.pointer (some ⟨gb112, 0, none⟩)]] ?_; (with_reducible refine (data_ids_by_data_checker_checkNodes_1.callsB gb112 M1 M2 x10_1 (some ad113) c0_0 l0_0 A0_1 c0_1 l0_1 A0_2 c0_2 l0_2 t115 _ ?side1 ?side2 ?side3 ?side4 ?side5 ?side6 ?sideB A7.out).mono ?_); (case sideB => exact (by (with_reducible repeat (first | refine kN ?_ _ | refine kD ?_ | refine kA ?_ _)); refine blk_far ?_ NB112_114.out _; (with_reducible repeat (first | refine kN ?_ _ | refine kD ?_ | refine kA ?_ _)); refine blk_far ?_ NB112_114.out _; (with_reducible repeat (first | refine kN ?_ _ | refine kD ?_ | refine kA ?_ _)); refine blk_far ?_ NB112_114.out _; (with_reducible repeat (first | refine kN ?_ _ | refine kD ?_ | refine kA ?_ _)); refine blk_far ?_ NB112_114.out _; (with_reducible repeat (first | refine kN ?_ _ | refine kD ?_ | refine kA ?_ _)); exact BK112.out)); (case side1 => exact Kd.C_below HR0_0.out (bl)); (case side2 => exact HC0_0.out); (case side3 => exact Kd.C_below HR0_1.out (bl)); (case side4 => exact HC0_1.out); (case side5 => exact Kd.C_below HR0_2.out (bl)); (case side6 => exact HC0_2.out); rintro e w13 ⟨rfl, hb⟩; refine ⟨_, rfl, ?_⟩; replace BK112 := aM (kB (g := gb112) (o := .cells #[.slice (some ad113) l0_0.length c0_0, .slice A0_1 l0_1.length c0_1, .slice A0_2 l0_2.length c0_2, .map (some M1), .map (some M2)] 73 (0, 0)) (by (with_reducible repeat (first | refine kN ?_ _ | refine kD ?_ | refine kA ?_ _)); refine blk_far ?_ NB112_114.out _; (with_reducible repeat (first | refine kN ?_ _ | refine kD ?_ | refine kA ?_ _)); refine blk_far ?_ NB112_114.out _; (with_reducible repeat (first | refine kN ?_ _ | refine kD ?_ | refine kA ?_ _)); refine blk_far ?_ NB112_114.out _; (with_reducible repeat (first | refine kN ?_ _ | refine kD ?_ | refine kA ?_ _)); refine blk_far ?_ NB112_114.out _; (with_reducible repeat (first | refine kN ?_ _ | refine kD ?_ | refine kA ?_ _)); exact BK112.out) hb); replace BK114 := aM (kB (g := gb114) (o := .cells #[.int .i64 ((rd_T39 l0_0 x10_1).f0), .int .i64 ((rd_T39 l0_0 x10_1).f1.f0), .int .i64 ((rd_T39 l0_0 x10_1).f1.f1), .slice A113_3 ((rd_T39 l0_0 x10_1).f2).length c113_3] 39 (0, 0)) (by (with_reducible repeat (first | refine kN ?_ _ | refine kD ?_ | refine kA ?_ _)); refine kP (cs := #[.int .i64 ((rd_T39 l0_0 x10_1).f0), .int .i64 ((rd_T39 l0_0 x10_1).f1.f0), .int .i64 ((rd_T39 l0_0 x10_1).f1.f1), .slice none 0 0]) ?_ 3 _ rfl; (with_reducible repeat (first | refine kN ?_ _ | refine kD ?_ | refine kA ?_ _)); refine kP (cs := #[.int .i64 ((rd_T39 l0_0 x10_1).f0), .int .i64 ((rd_T39 l0_0 x10_1).f1.f0), .int .i64 0, .slice none 0 0]) ?_ 2 _ rfl; (with_reducible repeat (first | refine kN ?_ _ | refine kD ?_ | refine kA ?_ _)); refine kP (cs := #[.int .i64 ((rd_T39 l0_0 x10_1).f0), .int .i64 0, .int .i64 0, .slice none 0 0]) ?_ 1 _ rfl; (with_reducible repeat (first | refine kN ?_ _ | refine kD ?_ | refine kA ?_ _)); refine kP (cs := #[.int .i64 0, .int .i64 0, .int .i64 0, .slice none 0 0]) ?_ 0 _ rfl; (with_reducible repeat (first | refine kN ?_ _ | refine kD ?_ | refine kA ?_ _)); exact BK114.out) hb); replace HB := aM (bS (bl) hb); (try clear hb)))
      (try simp only [Act.put, sA, sB, sC])
      go_cut [43] (fun v43 wc => ∃ (kq : Nat) (x43_7 : Bool), v43 = .bool x43_7 ∧ Aside0 (data_checker_checkNodes.j1 kq t115 l0_0 (l0_0.length : Int) x10_1 x43_7 l0_0 l0_1 l0_2 ((rd_T39 l0_0 x10_1).f0) ((rd_T39 l0_0 x10_1).f1.f0) ((rd_T39 l0_0 x10_1).f1.f1) ((rd_T39 l0_0 x10_1).f2) = some r) ∧ Aside0 (kq ≤ k1) ∧ Aside0 (wc.heap[gb112]? = some (.cells #[(.slice (some ad113) l0_0.length c0_0), (.slice A0_1 l0_1.length c0_1), (.slice A0_2 l0_2.length c0_2), .map (some M1), .map (some M2)] 73 (0, 0))) ∧ Aside0 (wc.heap[gb114]? = some (.cells #[.int .i64 ((rd_T39 l0_0 x10_1).f0), .int .i64 ((rd_T39 l0_0 x10_1).f1.f0), .int .i64 ((rd_T39 l0_0 x10_1).f1.f1), (.slice A113_3 ((rd_T39 l0_0 x10_1).f2).length c113_3)] 39 (0, 0))) ∧ Aside0 (Below w.heap.size w wc))
      case first =>
       have H := HC8.out
       clear HC8
       by_cases c14 : t115 = 0
       ·rw [if_pos c14] at H
        have c14b0 : (t115 == 0) = true := beq_iff_eq.mpr c14
        have c14b1 : (t115 != 0) = false := bne_eq_false_iff_eq.mpr c14
        clear c14
        (first | rw [c14b0] | (simp only [i64_w, i32_w]; rw [c14b0]) | skip)
        by_cases c15 : ((rd_T39 l0_0 x10_1).f1.f0) < (-1800000000)
        ·rw [if_pos c15] at H
         have c15b0 : decide (((rd_T39 l0_0 x10_1).f1.f0) < (-1800000000)) = true := decide_eq_true c15
         clear c15
         have H' := aM H
         clear H
         have hnb16 := NB114_112.out
         have hnc16 := NB112_114.out
         obtain ⟨hcz17_0, hcz17_1, hcz17_2, hcz17_3, hfz17_0, hfz17_1, hfz17_2, hfz17_3⟩ := bc4 BK114
         go_wp2
         go_meet
         case rel => exact ⟨_, (true), (by first | rfl | (simp; done) | (simp [*]; done)), H', ⟨by have := HK1.out; first | omega | exact Nat.le_refl _⟩, ⟨by (with_reducible repeat (first | refine kN ?_ _ | refine kD ?_ | refine kA ?_ _)); exact BK112.out⟩, ⟨by (with_reducible repeat (first | refine kN ?_ _ | refine kD ?_ | refine kA ?_ _)); exact BK114.out⟩, ⟨bl⟩⟩
        ·rw [if_neg c15] at H
         have c15b0 : decide (((rd_T39 l0_0 x10_1).f1.f0) < (-1800000000)) = false := decide_eq_false c15
         clear c15
         by_cases c18 : ((rd_T39 l0_0 x10_1).f1.f0) > 1800000000
         ·rw [if_pos c18] at H
          have c18b0 : decide (1800000000 < ((rd_T39 l0_0 x10_1).f1.f0)) = true := decide_eq_true c18
          clear c18
          have H' := aM H
          clear H
          have hnb19 := NB114_112.out
          have hnc19 := NB112_114.out
          obtain ⟨hcz20_0, hcz20_1, hcz20_2, hcz20_3, hfz20_0, hfz20_1, hfz20_2, hfz20_3⟩ := bc4 BK114
          go_wp2
          go_meet
          case rel => exact ⟨_, (true), (by first | rfl | (simp; done) | (simp [*]; done)), H', ⟨by have := HK1.out; first | omega | exact Nat.le_refl _⟩, ⟨by (with_reducible repeat (first | refine kN ?_ _ | refine kD ?_ | refine kA ?_ _)); exact BK112.out⟩, ⟨by (with_reducible repeat (first | refine kN ?_ _ | refine kD ?_ | refine kA ?_ _)); exact BK114.out⟩, ⟨bl⟩⟩
         ·rw [if_neg c18] at H
          have c18b0 : decide (1800000000 < ((rd_T39 l0_0 x10_1).f1.f0)) = false := decide_eq_false c18
          clear c18
          by_cases c21 : ((rd_T39 l0_0 x10_1).f1.f1) < (-900000000)
          ·rw [if_pos c21] at H
           have c21b0 : decide (((rd_T39 l0_0 x10_1).f1.f1) < (-900000000)) = true := decide_eq_true c21
           clear c21
           have H' := aM H
           clear H
           have hnb22 := NB114_112.out
           have hnc22 := NB112_114.out
           obtain ⟨hcz23_0, hcz23_1, hcz23_2, hcz23_3, hfz23_0, hfz23_1, hfz23_2, hfz23_3⟩ := bc4 BK114
           go_wp2
           go_meet
           case rel => exact ⟨_, (true), (by first | rfl | (simp; done) | (simp [*]; done)), H', ⟨by have := HK1.out; first | omega | exact Nat.le_refl _⟩, ⟨by (with_reducible repeat (first | refine kN ?_ _ | refine kD ?_ | refine kA ?_ _)); exact BK112.out⟩, ⟨by (with_reducible repeat (first | refine kN ?_ _ | refine kD ?_ | refine kA ?_ _)); exact BK114.out⟩, ⟨bl⟩⟩
          ·rw [if_neg c21] at H
           have c21b0 : decide (((rd_T39 l0_0 x10_1).f1.f1) < (-900000000)) = false := decide_eq_false c21
           clear c21
           have H' := aM H
           clear H
           have hnb24 := NB114_112.out
           have hnc24 := NB112_114.out
           obtain ⟨hcz25_0, hcz25_1, hcz25_2, hcz25_3, hfz25_0, hfz25_1, hfz25_2, hfz25_3⟩ := bc4 BK114
           go_wp2
           go_meet
           case rel => exact ⟨_, (decide (((rd_T39 l0_0 x10_1).f1.f1) > 900000000)), (by first | rfl | (simp; done) | (simp [*]; done)), H', ⟨by have := HK1.out; first | omega | exact Nat.le_refl _⟩, ⟨by (with_reducible repeat (first | refine kN ?_ _ | refine kD ?_ | refine kA ?_ _)); exact BK112.out⟩, ⟨by (with_reducible repeat (first | refine kN ?_ _ | refine kD ?_ | refine kA ?_ _)); exact BK114.out⟩, ⟨bl⟩⟩
       ·rw [if_neg c14] at H
        have c14b0 : (t115 == 0) = false := beq_eq_false_iff_ne.mpr c14
        have c14b1 : (t115 != 0) = true := bne_iff_ne.mpr c14
        (first | rw [c14b0] | (simp only [i64_w, i32_w]; rw [c14b0]) | skip)
        have H' := aM H
        clear H
        go_wp2
        go_meet
        case rel => exact ⟨_, (false), (by first | rfl | (simp; done) | (simp [*]; done)), H', ⟨by have := HK1.out; first | omega | exact Nat.le_refl _⟩, ⟨by (with_reducible repeat (first | refine kN ?_ _ | refine kD ?_ | refine kA ?_ _)); exact BK112.out⟩, ⟨by (with_reducible repeat (first | refine kN ?_ _ | refine kD ?_ | refine kA ?_ _)); exact BK114.out⟩, ⟨bl⟩⟩
      case rest =>
       clear HC8
       try clear c1
       try clear p1
       try clear q1
       try clear hx1
       try clear c2
       try clear p2
       try clear c3
       try clear c4
       try clear c4b0
       try clear c5
       try clear c5b0
       try clear c6
       try clear c6b0
       try clear c10
       try clear c11
       try clear p11
       try clear q11
       try clear hx11
       try clear c14
       try clear c14b0
       try clear c14b1
       try clear c15
       try clear c15b0
       try clear c16
       try clear c18
       try clear c18b0
       try clear c19
       try clear c21
       try clear c21b0
       try clear c22
       try clear c24
       try clear hcz11_0 hcz11_1 hcz11_2 hcz11_3 hfz11_0 hfz11_1 hfz11_2 hfz11_3
       try clear hcz12_0 hcz12_1 hcz12_2 hfz12_0 hfz12_1 hfz12_2
       try clear hcz17_0 hcz17_1 hcz17_2 hcz17_3 hfz17_0 hfz17_1 hfz17_2 hfz17_3
       try clear hcz20_0 hcz20_1 hcz20_2 hcz20_3 hfz20_0 hfz20_1 hfz20_2 hfz20_3
       try clear hcz23_0 hcz23_1 hcz23_2 hcz23_3 hfz23_0 hfz23_1 hfz23_2 hfz23_3
       try clear hcz25_0 hcz25_1 hcz25_2 hcz25_3 hfz25_0 hfz25_1 hfz25_2 hfz25_3
       try clear hcz3_0 hcz3_1 hcz3_2 hfz3_0 hfz3_1 hfz3_2
       try clear hx113_0
       try clear hx113_1
       try clear hx113_2
       try clear hx113_3
       try clear p113
       try clear p2
       try clear q113
       obtain ⟨kq, x43_7, rfl, HA, HJ7, BK112, BK114, HB⟩ := hcut
       cases kq with
       | zero => exact absurd HA.out (by simp [data_checker_checkNodes.j1])
       | succ kj7 =>
        have H := HA.out
        clear HA
        simp only [data_checker_checkNodes.j1] at H
        have HC26 := aM H
        clear H
        go_upto_if 43 with (fail)
        go_cut [5] (fun v5 wc => ∃ (kq : Nat) (x5_25 : Int), v5 = .int .i64 x5_25 ∧ Aside0 (data_checker_checkNodes.j2 kq x5_25 l0_0 (l0_0.length : Int) x10_1 l0_0 l0_1 l0_2 ((rd_T39 l0_0 x10_1).f0) ((rd_T39 l0_0 x10_1).f1.f0) ((rd_T39 l0_0 x10_1).f1.f1) ((rd_T39 l0_0 x10_1).f2) = some r) ∧ Aside0 (kq ≤ kj7) ∧ Aside0 (wc.heap[gb112]? = some (.cells #[(.slice (some ad113) l0_0.length c0_0), (.slice A0_1 l0_1.length c0_1), (.slice A0_2 l0_2.length c0_2), .map (some M1), .map (some M2)] 73 (0, 0))) ∧ Aside0 (wc.heap[gb114]? = some (.cells #[.int .i64 ((rd_T39 l0_0 x10_1).f0), .int .i64 ((rd_T39 l0_0 x10_1).f1.f0), .int .i64 ((rd_T39 l0_0 x10_1).f1.f1), (.slice A113_3 ((rd_T39 l0_0 x10_1).f2).length c113_3)] 39 (0, 0))) ∧ Aside0 (Below w.heap.size w wc))
        case first =>
         have H := HC26.out
         clear HC26
         by_cases c27 : x43_7 = true
         ·subst c27
          have H1 : (data_checker_checkNodes.j2 kj7 11 l0_0 (l0_0.length : Int) x10_1 l0_0 l0_1 l0_2 ((rd_T39 l0_0 x10_1).f0) ((rd_T39 l0_0 x10_1).f1.f0) ((rd_T39 l0_0 x10_1).f1.f1) ((rd_T39 l0_0 x10_1).f2)) = some r := by rw [if_pos rfl] at H; exact H
          clear H
          have H := H1
          clear H1
          have H' := aM H
          clear H
          go_wp2
          go_meet
          case rel => exact ⟨_, (11), (by first | rfl | (simp; done) | (simp [*]; done)), H', ⟨by have := HK1.out; have := HJ7.out; first | omega | exact Nat.le_refl _⟩, ⟨by (with_reducible repeat (first | refine kN ?_ _ | refine kD ?_ | refine kA ?_ _)); exact BK112.out⟩, ⟨by (with_reducible repeat (first | refine kN ?_ _ | refine kD ?_ | refine kA ?_ _)); exact BK114.out⟩, ⟨bl⟩⟩
         ·replace c27 := Bool.eq_false_iff.mpr c27
          subst c27
          have H1 : (data_checker_checkNodes.j2 kj7 t115 l0_0 (l0_0.length : Int) x10_1 l0_0 l0_1 l0_2 ((rd_T39 l0_0 x10_1).f0) ((rd_T39 l0_0 x10_1).f1.f0) ((rd_T39 l0_0 x10_1).f1.f1) ((rd_T39 l0_0 x10_1).f2)) = some r := by rw [if_neg (show ¬ (false = true) by decide)] at H; exact H
          clear H
          have H := H1
          clear H1
          have H' := aM H
          clear H
          go_wp2
          go_meet
          case rel => exact ⟨_, (t115), (by first | rfl | (simp; done) | (simp [*]; done)), H', ⟨by have := HK1.out; have := HJ7.out; first | omega | exact Nat.le_refl _⟩, ⟨by (with_reducible repeat (first | refine kN ?_ _ | refine kD ?_ | refine kA ?_ _)); exact BK112.out⟩, ⟨by (with_reducible repeat (first | refine kN ?_ _ | refine kD ?_ | refine kA ?_ _)); exact BK114.out⟩, ⟨bl⟩⟩
        case rest =>
         clear HC26
         try clear c1
         try clear p1
         try clear q1
         try clear hx1
         try clear c2
         try clear p2
         try clear c3
         try clear c4
         try clear c4b0
         try clear c5
         try clear c5b0
         try clear c6
         try clear c6b0
         try clear c10
         try clear c11
         try clear p11
         try clear q11
         try clear hx11
         try clear c14
         try clear c14b0
         try clear c14b1
         try clear c15
         try clear c15b0
         try clear c16
         try clear c18
         try clear c18b0
         try clear c19
         try clear c21
         try clear c21b0
         try clear c22
         try clear c24
         try clear c27
         try clear hcz11_0 hcz11_1 hcz11_2 hcz11_3 hfz11_0 hfz11_1 hfz11_2 hfz11_3
         try clear hcz12_0 hcz12_1 hcz12_2 hfz12_0 hfz12_1 hfz12_2
         try clear hcz17_0 hcz17_1 hcz17_2 hcz17_3 hfz17_0 hfz17_1 hfz17_2 hfz17_3
         try clear hcz20_0 hcz20_1 hcz20_2 hcz20_3 hfz20_0 hfz20_1 hfz20_2 hfz20_3
         try clear hcz23_0 hcz23_1 hcz23_2 hcz23_3 hfz23_0 hfz23_1 hfz23_2 hfz23_3
         try clear hcz25_0 hcz25_1 hcz25_2 hcz25_3 hfz25_0 hfz25_1 hfz25_2 hfz25_3
         try clear hcz3_0 hcz3_1 hcz3_2 hfz3_0 hfz3_1 hfz3_2
         try clear hx113_0
         try clear hx113_1
         try clear hx113_2
         try clear hx113_3
         try clear p1
         try clear p11
         try clear p113
         try clear p2
         try clear q1
         try clear q11
         try clear q113
         obtain ⟨kq, x5_25, rfl, HA, HJ25, BK112, BK114, HB⟩ := hcut
         cases kq with
         | zero => exact absurd HA.out (by simp [data_checker_checkNodes.j2])
         | succ kj25 =>
          have H := HA.out
          clear HA
          simp only [data_checker_checkNodes.j2] at H
          by_cases c28 : x5_25 = 0
          ·rw [if_pos c28] at H
           have c28b0 : (x5_25 == 0) = true := beq_iff_eq.mpr c28
           have c28b1 : (x5_25 != 0) = false := bne_eq_false_iff_eq.mpr c28
           clear c28
           replace H := Option.bind_eq_some_iff.mp H
           obtain ⟨t116, A290, H⟩ := H
           try dsimp only at H
           have A29 := aM A290
           clear A290
           by_cases c30 : t116 = 0
           ·rw [if_pos c30] at H
            have c30b0 : (t116 == 0) = true := beq_iff_eq.mpr c30
            have c30b1 : (t116 != 0) = false := bne_eq_false_iff_eq.mpr c30
            clear c30
            have H' := aM H
            clear H
            have hnb31 := NB114_112.out
            have hnc31 := NB112_114.out
            obtain ⟨hcz32_0, hcz32_1, hcz32_2, hcz32_3, hfz32_0, hfz32_1, hfz32_2, hfz32_3⟩ := bc4 BK114
            go_wp2_with (first | ((with_reducible refine gate_callee (f := 71) rfl ?_); refine gL (some 48) Try.func71 #[.slice A113_3 ((rd_T39 l0_0 x10_1).f2).length c113_3] ?_; (with_reducible refine (tags_Check.calls kj25 _ _ ((rd_T39 l0_0 x10_1).f2) t116 _ ?side1 ?side2 A29.out).mono ?_); (case side1 => exact cl HR113_3); (case side2 => exact HC113_3.out); rintro e w33 ⟨rfl, hb⟩; refine ⟨_, rfl, ?_⟩; replace BK112 := aM (kB (kl BK112) hb); replace HB := aM (bS (bl) hb); clear BK114; (try clear hb)))
            go_roundg kj25
            case measure => have := HK1.out; have := HJ7.out; have := HJ25.out; omega
            case rel => exact ⟨(wrap64 (x10_1 + 1)), (by first | rfl | (simp; done) | (simp [*]; done)), H', ⟨by have := HK1.out; have := HJ7.out; have := HJ25.out; omega⟩, ⟨by (with_reducible repeat (first | refine kN ?_ _ | refine kD ?_ | refine kA ?_ _)); exact BK112.out⟩, ⟨bl⟩⟩
           ·rw [if_neg c30] at H
            have c30b0 : (t116 == 0) = false := beq_eq_false_iff_ne.mpr c30
            have c30b1 : (t116 != 0) = true := bne_iff_ne.mpr c30
            obtain rfl := Option.some.inj H
            have hnb34 := NB114_112.out
            have hnc34 := NB112_114.out
            obtain ⟨hcz35_0, hcz35_1, hcz35_2, hcz35_3, hfz35_0, hfz35_1, hfz35_2, hfz35_3⟩ := bc4 BK114
            go_wp2_with (first | ((with_reducible refine gate_callee (f := 71) rfl ?_); refine gL (some 48) Try.func71 #[.slice A113_3 ((rd_T39 l0_0 x10_1).f2).length c113_3] ?_; (with_reducible refine (tags_Check.calls kj25 _ _ ((rd_T39 l0_0 x10_1).f2) t116 _ ?side1 ?side2 A29.out).mono ?_); (case side1 => exact cl HR113_3); (case side2 => exact HC113_3.out); rintro e w36 ⟨rfl, hb⟩; refine ⟨_, rfl, ?_⟩; replace HB := aM (bS (bl) hb); clear BK112 BK114; (try clear hb)))
            go_ret
            exact ⟨by first | rfl | (simp [errW_none, errW_some] <;> rfl) | (simp [*, errW_none, errW_some] <;> rfl), bl⟩
          ·rw [if_neg c28] at H
           have c28b0 : (x5_25 == 0) = false := beq_eq_false_iff_ne.mpr c28
           have c28b1 : (x5_25 != 0) = true := bne_iff_ne.mpr c28
           obtain rfl := Option.some.inj H
           go_wp2
           go_ret
           exact ⟨by first | rfl | (simp [errW_none, errW_some] <;> rfl) | (simp [*, errW_none, errW_some] <;> rfl), bl⟩
     ·rw [if_neg c6] at H
      exact absurd H (by simp)
    ·rw [if_neg c5] at H
     exact absurd H (by simp)
   ·rw [if_neg c4] at H
    have c4b0 : decide (x10_1 < (l0_0.length : Int)) = false := decide_eq_false c4
    clear c4
    obtain rfl := Option.some.inj H
    go_wp2
    go_ret
    exact ⟨by first | rfl | (simp [errW_none, errW_some] <;> rfl) | (simp [*, errW_none, errW_some] <;> rfl), bl⟩
-- NOT PRINTED: function 73 (slices_ContainsFunc_int_int)
set_option maxHeartbeats 4000000 in
set_option maxRecDepth 100000 in
theorem closure72 (A1_0 : Option Addr) (c1_0 : Nat) (l1_0 : List S39) (A1_1 : Option Addr) (c1_1 : Nat) (l1_1 : List S45) (A1_2 : Option Addr) (c1_2 : Nat) (l1_2 : List S51) (M1 M2 : Value) (B : Nat) (w : World)
  (hB : w.heap[B]? = some (.cells #[.slice A1_0 l1_0.length c1_0, .slice A1_1 l1_1.length c1_1, .slice A1_2 l1_2.length c1_2, M1, M2] 73 (0, 0))) (hr : Kd.C k45 w A1_1 l1_1.length l1_1) (j : Int) (h0 : 0 ≤ j) (h1 : j < (l1_1.length : Int)) :
  Calls Try.prog 72 (#[.int .i64 j] ++ #[.pointer (some ⟨B, 0, none⟩)]) w fun e w' => e = .returned (.int .i64 (rd_T45 l1_1 j).f0) ∧ w' = w := by
 have hu73 := Try.underlying73
 have hu26 := Try.underlying26
 have hu45 := Try.underlying45
 have hb := hr.2.1
 obtain ⟨ad, A1, c1, A2, c2, e0, hx0, hx1, hx2, hl1, hi1, hl2, hi2⟩ := at_T45 hr j h0 h1
 cases e0
 have hc : w.cell? ⟨B, 1, none⟩ = some (.slice (some ad) l1_1.length c1_1) := (kC hB 1).trans rfl
 have hf := kF hB 1
 obtain ⟨n, rfl⟩ := Int.eq_ofNat_of_zero_le h0
 rw [Int.toNat_natCast] at hx0 hx1 hx2
 clear hB hr hl1 hi1 hl2 hi2
 generalize (rd_T45 l1_1 (n : Int)) = x at hx0 hx1 hx2 ⊢
 show Calls Try.prog 72 #[.int .i64 (n : Int), .pointer (some ⟨B, 0, none⟩)] w _
 go_enter Try.func72, Try.ntmps72
 go_wp2
 go_ret
 exact ⟨rfl, rfl⟩
def data_ids_by_data_checker_checkWays_1.f (a0 : Int) (l1_0 : List S39) (l1_1 : List S45) (l1_2 : List S51) : Option Int := if 0 ≤ a0 then (if a0 < (l1_1.length : Int) then some (idsF (fun j => (rd_T45 l1_1 j).f0) a0) else none) else none
theorem data_ids_by_data_checker_checkWays_1.callsB (B : Nat) (M1 M2 : Nat) (a0 : Int) (A1_0 : Option Addr) (c1_0 : Nat) (l1_0 : List S39) (A1_1 : Option Addr) (c1_1 : Nat) (l1_1 : List S45) (A1_2 : Option Addr) (c1_2 : Nat) (l1_2 : List S51) (r : Int) (w : World)
  (hr1_0 : Kd.C k39 w A1_0 l1_0.length l1_0) (hc1_0 : l1_0.length ≤ c1_0) (hr1_1 : Kd.C k45 w A1_1 l1_1.length l1_1) (hc1_1 : l1_1.length ≤ c1_1) (hr1_2 : Kd.C k51 w A1_2 l1_2.length l1_2) (hc1_2 : l1_2.length ≤ c1_2)
  (hB : w.heap[B]? = some (.cells #[.slice A1_0 l1_0.length c1_0, .slice A1_1 l1_1.length c1_1, .slice A1_2 l1_2.length c1_2, .map (some M1), .map (some M2)] 73 (0, 0))) (h : data_ids_by_data_checker_checkWays_1.f a0 l1_0 l1_1 l1_2 = some r) :
  Calls Try.prog 69 #[.int .i64 a0, .func (.func 72) #[] #[.pointer (some ⟨B, 0, none⟩)]] w fun e w' => e = .returned (.int .i64 r) ∧ Below w.heap.size w w' := by
 unfold data_ids_by_data_checker_checkWays_1.f at h
 split at h
 case isFalse => cases h
 split at h
 case isFalse => cases h
 rename_i h0 h1
 obtain rfl := Option.some.inj h
 have eg : ∀ args w, (callFunc 72 args).run Try.prog w = .ok (.enter 72 args) w := enters_of Try.func72 (by kernel_rfl) rfl
 have hb := hr1_1.2.1
 refine (ids69 (fun j => (rd_T45 l1_1 j).f0) 72 #[.pointer (some ⟨B, 0, none⟩)] eg a0 w h0 (by omega) (fun j hj => closure72 A1_0 c1_0 l1_0 A1_1 c1_1 l1_1 A1_2 c1_2 l1_2 (.map (some M1)) (.map (some M2)) B w hB hr1_1 j (by omega) (by omega))).mono ?_
 rintro e w' ⟨rfl, rfl⟩
 exact ⟨rfl, Below.refl _ _⟩
def ixOf {α : Type} (p : α → Bool) (l : List α) : Int := match l.findIdx? p with | some i => (i : Int) | none => -1
theorem ixOf_hit {α : Type} (p : α → Bool) (l : List α) (z : α) (k : Nat) (hk : k < l.length) (h : p (l.getD k z) = true) (hb : ∀ j, j < k → p (l.getD j z) = false) : ixOf p l = k := by
 have e : l.findIdx? p = some k := by
  rw [List.findIdx?_eq_some_iff_getElem]
  refine ⟨hk, ?_, fun j hj => ?_⟩
  ·simpa [List.getD_eq_getElem?_getD, List.getElem?_eq_getElem hk] using h
  ·have := hb j hj
   simpa [List.getD_eq_getElem?_getD, List.getElem?_eq_getElem (show j < l.length by omega)] using this
 unfold ixOf
 rw [e]
theorem ixOf_miss {α : Type} (p : α → Bool) (l : List α) (z : α) (hb : ∀ j, j < l.length → p (l.getD j z) = false) : ixOf p l = -1 := by
 have e : l.findIdx? p = none := by
  rw [List.findIdx?_eq_none_iff]
  intro x hx
  obtain ⟨j, hj, rfl⟩ := List.getElem_of_mem hx
  have := hb j hj
  simpa [List.getD_eq_getElem?_getD, List.getElem?_eq_getElem hj] using this
 unfold ixOf
 rw [e]
theorem ixOf_any {α : Type} (p : α → Bool) (l : List α) : decide (0 ≤ ixOf p l) = l.any p := by
 unfold ixOf
 cases h : l.findIdx? p with
 | none =>
  have h2 := List.findIdx?_eq_none_iff.mp h
  have : l.any p = false := by rw [List.any_eq_false]; intro x hx; rw [h2 x hx]; exact Bool.false_ne_true
  rw [this]; rfl
 | some i =>
  have h2 := List.findIdx?_eq_some_iff_getElem.mp h
  obtain ⟨hi, hp, _⟩ := h2
  have : l.any p = true := List.any_eq_true.mpr ⟨_, List.getElem_mem hi, hp⟩
  rw [this]
  exact decide_eq_true (by show (0 : Int) ≤ (i : Int); omega)
set_option maxHeartbeats 4000000 in
set_option maxRecDepth 100000 in
theorem ixInt89 (p : Int → Bool) (g : Nat) (lb : Array Value) (eg : ∀ args w, (callFunc g args).run Try.prog w = .ok (.enter g args) w) (A0 : Option Addr) (c0 : Nat) (l0 : List Int) (w : World) (hr0 : Kd.C (Kd.int .i64) w A0 l0.length l0)
  (hp : ∀ (W : World) (x : Int), x ∈ l0 → Below w.heap.size w W → Calls Try.prog g (#[.int .i64 x] ++ lb) W fun e w' => e = .returned (.bool (p x)) ∧ Below w.heap.size w w') :
  Calls Try.prog 89 #[.slice A0 l0.length c0, .func (.func g) #[] lb] w fun e w' => e = .returned (.int .i64 (ixOf p l0)) ∧ Below w.heap.size w w' := by
 have hbig : l0.length ≤ 9223372036854775807 := hr0.2.1
 have HR0 := aM hr0
 clear hr0
 have HP := aM hp
 clear hp
 go_enter Try.func89, Try.ntmps89
 go_wp2
 go_loopg [5, 8] l0.length (fun gg _ s8 wr => ∃ kk : Int, 0 ≤ kk ∧ kk ≤ (l0.length : Int) ∧ (l0.length : Int) - kk ≤ gg ∧ s8 = .int .i64 kk ∧ Aside0 (Below w.heap.size w wr) ∧ Aside0 (∀ j : Nat, (j : Int) < kk → p (l0.getD j 0) = false))
 case atStart => exact ⟨0, by omega, by omega, by omega, rfl, ⟨Below.refl _ w⟩, ⟨fun j hj => absurd hj (by omega)⟩⟩
 case round =>
  obtain ⟨kk, hk0, hkk, hg, rfl, BW, AA⟩ := hrel
  by_cases hlt : kk < (l0.length : Int)
  ·obtain ⟨ad, e0, hx0⟩ := Kd.at_int (Kd.C_below HR0.out BW.out) kk hk0 hlt
   cases e0
   have hm : rd l0 kk ∈ l0 := by unfold rd; rw [List.getD_eq_getElem?_getD, List.getElem?_eq_getElem (show kk.toNat < l0.length by omega)]; exact List.getElem_mem _
   have hcall := HP.out wr (rd l0 kk) hm BW.out
   have B := aM (show rd l0 kk = l0.getD kk.toNat 0 from rfl)
   clear hm
   generalize rd l0 kk = y at hcall hx0 B
   cases hq : p y with
   | true =>
    rw [hq] at hcall
    have HQ := aM hq
    clear hq
    go_wp2_with (go_at_fn g; refine hcall.mono ?_; rintro e w' ⟨rfl, hb'⟩)
    go_ret
    refine ⟨?_, hb'⟩
    rw [ixOf_hit p l0 0 kk.toNat (by omega) (by rw [← B.out]; exact HQ.out) (fun j hj => AA.out j (by omega))]
    rw [Int.toNat_of_nonneg hk0]
    rfl
   | false =>
    rw [hq] at hcall
    have HQ := aM hq
    clear hq
    go_wp2_with (go_at_fn g; refine hcall.mono ?_; rintro e w' ⟨rfl, hb'⟩)
    go_roundg (l0.length - (kk.toNat + 1))
    case measure => omega
    case rel =>
     refine ⟨kk + 1, by omega, by omega, by omega, by go_num, ⟨hb'⟩, ⟨fun j hj => ?_⟩⟩
     by_cases e : (j : Int) = kk
     ·have : j = kk.toNat := by omega
      subst this
      rw [← B.out]; exact HQ.out
     ·exact AA.out j (by omega)
  ·have : kk = (l0.length : Int) := by omega
   subst this
   go_wp2
   go_ret
   refine ⟨?_, BW.out⟩
   rw [ixOf_miss p l0 0 (fun j hj => AA.out j (by omega))]
   rfl
set_option maxHeartbeats 4000000 in
set_option maxRecDepth 100000 in
theorem closure74 (c0 c1 c2 : Value) (M1 M2 B : Nat) (ids : List Int) (w : World) (hB : w.heap[B]? = some (.cells #[c0, c1, c2, .map (some M1), .map (some M2)] 73 (0, 0))) (hm : HasIds w M1 ids) (W : World) (x : Int) (hx : InI x) (hb : Below w.heap.size w W) :
  Calls Try.prog 74 (#[.int .i64 x] ++ #[.pointer (some ⟨B, 0, none⟩)]) W fun e w' => e = .returned (.bool (!ids.contains x)) ∧ Below w.heap.size w w' := by
 have hu73 := Try.underlying73
 have hc : W.cell? ⟨B, 3, none⟩ = some (.map (some M1)) := (hb.cell (p := ⟨B, 3, none⟩) (blk_lt hB)).trans ((kC hB 3).trans rfl)
 have hlook := (hm.below hb).look hx
 have HB := aM hb
 clear hb hB hm
 generalize ids.contains x = v at hlook ⊢
 show Calls Try.prog 74 #[.int .i64 x, .pointer (some ⟨B, 0, none⟩)] W _
 go_enter Try.func74, Try.ntmps74
 go_wp2
 go_ret
 exact ⟨rfl, HB.out⟩
def slices_ContainsFunc_int_int_by_data_checker_checkWays_2.f (l0 : List Int) (l1_0 : List S39) (l1_1 : List S45) (l1_2 : List S51) : Option Bool := if ∀ n ∈ l0, InI n then some (l0.any (fun n => !(l1_0.map (fun x => x.f0)).contains n)) else none
set_option maxHeartbeats 4000000 in
set_option maxRecDepth 100000 in
theorem slices_ContainsFunc_int_int_by_data_checker_checkWays_2.callsB (B M1 M2 : Nat) (A0 : Option Addr) (c0 : Nat) (l0 : List Int) (A1_0 : Option Addr) (c1_0 : Nat) (l1_0 : List S39) (A1_1 : Option Addr) (c1_1 : Nat) (l1_1 : List S45) (A1_2 : Option Addr) (c1_2 : Nat) (l1_2 : List S51) (r : Bool) (w : World) (hr0 : Kd.C (Kd.int .i64) w A0 l0.length l0) (hc0 : l0.length ≤ c0) (hr1_0 : Kd.C k39 w A1_0 l1_0.length l1_0) (hc1_0 : l1_0.length ≤ c1_0) (hr1_1 : Kd.C k45 w A1_1 l1_1.length l1_1) (hc1_1 : l1_1.length ≤ c1_1) (hr1_2 : Kd.C k51 w A1_2 l1_2.length l1_2) (hc1_2 : l1_2.length ≤ c1_2)
  (hB : w.heap[B]? = some (.cells #[.slice A1_0 l1_0.length c1_0, .slice A1_1 l1_1.length c1_1, .slice A1_2 l1_2.length c1_2, .map (some M1), .map (some M2)] 73 (0, 0))) (hm1 : HasIds w M1 (l1_0.map (fun x => x.f0))) (h : slices_ContainsFunc_int_int_by_data_checker_checkWays_2.f l0 l1_0 l1_1 l1_2 = some r) :
  Calls Try.prog 73 #[.slice A0 l0.length c0, .func (.func 74) #[] #[.pointer (some ⟨B, 0, none⟩)]] w fun e w' => e = .returned (.bool r) ∧ Below w.heap.size w w' := by
 unfold slices_ContainsFunc_int_int_by_data_checker_checkWays_2.f at h
 split at h
 case isFalse => cases h
 rename_i hin
 obtain rfl := Option.some.inj h
 clear h
 have eg : ∀ args w, (callFunc 74 args).run Try.prog w = .ok (.enter 74 args) w := enters_of Try.func74 (by kernel_rfl) rfl
 have HX := aM (ixInt89 (fun n => !(l1_0.map (fun x => x.f0)).contains n) 74 #[.pointer (some ⟨B, 0, none⟩)] eg A0 c0 l0 w hr0 (fun W x hx hb => closure74 _ _ _ M1 M2 B _ w hB hm1 W x (hin x hx) hb))
 have HA := aM (ixOf_any (fun n => !(l1_0.map (fun x => x.f0)).contains n) l0)
 clear hr0 hr1_0 hr1_1 hr1_2 eg hB hm1 hin
 generalize l0.any (fun n => !(l1_0.map (fun x => x.f0)).contains n) = r at HA ⊢
 generalize ixOf (fun n => !(l1_0.map (fun x => x.f0)).contains n) l0 = n at HA HX
 go_enter Try.func73, Try.ntmps73
 go_wp2_with (first | (go_at_call 89; refine HX.out.mono ?_; rintro e w1 ⟨rfl, hb1⟩) | go_in)
 go_ret
 refine ⟨?_, hb1⟩
 rw [← HA.out]
 rfl
end Go.Proofs.Ytgenbepicnbecaa.PAll
