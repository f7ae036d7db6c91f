-- out of a driver of this session's prover over the kit's print: Lean checks it
import Derived.Test.YtijoaohckgbneaaGreatPAllx0
import Derived.Test.YtijoaohckgbneaaGreatPAllx6
namespace Go.Proofs.YtijoaohckgbneaaGreat.PAll
open Go.Proofs.YtijoaohckgbneaaGreatG Go.Shelf Go.Lib
open Go.RowKit Go.Proofs.YtijoaohckgbneaaGreatW.PrintWords Go.Proofs.YtijoaohckgbneaaGreatW.PrintLast Go.Proofs.YtijoaohckgbneaaGreatW.PrintMore
attribute [local go_sem] max2_int min2_int max_two min_two max_three min_three max_four min_four   -- for this text's walks alone
set_option linter.unusedVariables false
set_option linter.unusedSimpArgs false
mutual
def data_checker_checkNodes.l0 : Nat → List (S37) → Int → Int → List (S37) → List (S40) → List (S43) → Option (Int)
 | 0, _, _, _, _, _, _ => none
 | k + 1, x8, x9, x10, x119000, x119001, x119002 => if x10 < x9 then (if 0 ≤ x10 then (if x10 < (x8.length : Int) then ((data_ids_by_data_checker_checkNodes_1.f x10 x119000 x119001 x119002).bind fun t121 => (if t121 = 0 then (if ((rd_T37 x8 x10).f1.f0) < (-1800000000) then (data_checker_checkNodes.j1 k t121 x8 x9 x10 true x119000 x119001 x119002 ((rd_T37 x8 x10).f0) ((rd_T37 x8 x10).f1.f0) ((rd_T37 x8 x10).f1.f1) ((rd_T37 x8 x10).f2)) else (if ((rd_T37 x8 x10).f1.f0) > 1800000000 then (data_checker_checkNodes.j1 k t121 x8 x9 x10 true x119000 x119001 x119002 ((rd_T37 x8 x10).f0) ((rd_T37 x8 x10).f1.f0) ((rd_T37 x8 x10).f1.f1) ((rd_T37 x8 x10).f2)) else (if ((rd_T37 x8 x10).f1.f1) < (-900000000) then (data_checker_checkNodes.j1 k t121 x8 x9 x10 true x119000 x119001 x119002 ((rd_T37 x8 x10).f0) ((rd_T37 x8 x10).f1.f0) ((rd_T37 x8 x10).f1.f1) ((rd_T37 x8 x10).f2)) else (data_checker_checkNodes.j1 k t121 x8 x9 x10 (decide (((rd_T37 x8 x10).f1.f1) > 900000000)) x119000 x119001 x119002 ((rd_T37 x8 x10).f0) ((rd_T37 x8 x10).f1.f0) ((rd_T37 x8 x10).f1.f1) ((rd_T37 x8 x10).f2))))) else (data_checker_checkNodes.j1 k t121 x8 x9 x10 false x119000 x119001 x119002 ((rd_T37 x8 x10).f0) ((rd_T37 x8 x10).f1.f0) ((rd_T37 x8 x10).f1.f1) ((rd_T37 x8 x10).f2)))) else (none)) else (none)) else (some 0)
def data_checker_checkNodes.j1 : Nat → Int → List (S37) → Int → Int → Bool → List (S37) → List (S40) → List (S43) → Int → Int → Int → List (S129) → Option (Int)
 | 0, _, _, _, _, _, _, _, _, _, _, _, _ => none
 | k + 1, x5, x8, x9, x10, x43, x119000, x119001, x119002, x121000, x121001, x121002, x121003 => if x43 = true then (data_checker_checkNodes.j2 k 11 x8 x9 x10 x119000 x119001 x119002 x121000 x121001 x121002 x121003) else (data_checker_checkNodes.j2 k x5 x8 x9 x10 x119000 x119001 x119002 x121000 x121001 x121002 x121003)
def data_checker_checkNodes.j2 : Nat → Int → List (S37) → Int → Int → List (S37) → List (S40) → List (S43) → Int → Int → Int → List (S129) → Option (Int)
 | 0, _, _, _, _, _, _, _, _, _, _, _ => none
 | k + 1, x5, x8, x9, x10, x119000, x119001, x119002, x121000, x121001, x121002, x121003 => if x5 = 0 then ((tags_Check.f k x121003).bind fun t122 => (if t122 = 0 then (data_checker_checkNodes.l0 k x8 x9 (wrap64 (x10 + 1)) x119000 x119001 x119002) else (some t122))) else (some x5)
end
def data_checker_checkNodes.f (k : Nat) (l0_0 : List (S37)) (l0_1 : List (S40)) (l0_2 : List (S43)) : Option (Int) := data_checker_checkNodes.l0 k l0_0 (l0_0.length : Int) 0 l0_0 l0_1 l0_2
theorem data_checker_checkNodes.mono_l : ∀ k, (∀ y0 y1 y2 y3 y4 y5, LeO (data_checker_checkNodes.l0 k y0 y1 y2 y3 y4 y5) (data_checker_checkNodes.l0 (k + 1) y0 y1 y2 y3 y4 y5)) ∧ (∀ y0 y1 y2 y3 y4 y5 y6 y7 y8 y9 y10 y11, LeO (data_checker_checkNodes.j1 k y0 y1 y2 y3 y4 y5 y6 y7 y8 y9 y10 y11) (data_checker_checkNodes.j1 (k + 1) y0 y1 y2 y3 y4 y5 y6 y7 y8 y9 y10 y11)) ∧ (∀ y0 y1 y2 y3 y4 y5 y6 y7 y8 y9 y10, LeO (data_checker_checkNodes.j2 k y0 y1 y2 y3 y4 y5 y6 y7 y8 y9 y10) (data_checker_checkNodes.j2 (k + 1) y0 y1 y2 y3 y4 y5 y6 y7 y8 y9 y10))
 | 0 => ⟨fun _ _ _ _ _ _ r h => by simp [data_checker_checkNodes.l0] at h, fun _ _ _ _ _ _ _ _ _ _ _ _ r h => by simp [data_checker_checkNodes.j1] at h, fun _ _ _ _ _ _ _ _ _ _ _ r h => by simp [data_checker_checkNodes.j2] at h⟩
 | k + 1 => by
  obtain ⟨ih0, ih1, ih2⟩ := data_checker_checkNodes.mono_l k
  refine ⟨?_, ?_, ?_⟩
  ·intro y0 y1 y2 y3 y4 y5
   unfold data_checker_checkNodes.l0
   repeat' first
   | (with_reducible exact ih0 _ _ _ _ _ _)
   | (with_reducible exact ih1 _ _ _ _ _ _ _ _ _ _ _ _)
   | (with_reducible exact ih2 _ _ _ _ _ _ _ _ _ _ _)
   | (with_reducible exact tags_Check.mono _ _)
   | (with_reducible exact LeO.refl _)
   | (with_reducible exact LeO.none _)
   | (with_reducible refine LeO.ite ?_ ?_)
   | (with_reducible refine LeO.bind ?_ (fun _ => ?_))
   | exact ih0 _ _ _ _ _ _
   | exact ih1 _ _ _ _ _ _ _ _ _ _ _ _
   | exact ih2 _ _ _ _ _ _ _ _ _ _ _
   | exact tags_Check.mono _ _
   | exact LeO.none _
   | refine LeO.ite ?_ ?_
   | refine LeO.bind ?_ (fun _ => ?_)
  ·intro y0 y1 y2 y3 y4 y5 y6 y7 y8 y9 y10 y11
   unfold data_checker_checkNodes.j1
   repeat' first
   | (with_reducible exact ih0 _ _ _ _ _ _)
   | (with_reducible exact ih1 _ _ _ _ _ _ _ _ _ _ _ _)
   | (with_reducible exact ih2 _ _ _ _ _ _ _ _ _ _ _)
   | (with_reducible exact tags_Check.mono _ _)
   | (with_reducible exact LeO.refl _)
   | (with_reducible exact LeO.none _)
   | (with_reducible refine LeO.ite ?_ ?_)
   | (with_reducible refine LeO.bind ?_ (fun _ => ?_))
   | exact ih0 _ _ _ _ _ _
   | exact ih1 _ _ _ _ _ _ _ _ _ _ _ _
   | exact ih2 _ _ _ _ _ _ _ _ _ _ _
   | exact tags_Check.mono _ _
   | exact LeO.none _
   | refine LeO.ite ?_ ?_
   | refine LeO.bind ?_ (fun _ => ?_)
  ·intro y0 y1 y2 y3 y4 y5 y6 y7 y8 y9 y10
   unfold data_checker_checkNodes.j2
   repeat' first
   | (with_reducible exact ih0 _ _ _ _ _ _)
   | (with_reducible exact ih1 _ _ _ _ _ _ _ _ _ _ _ _)
   | (with_reducible exact ih2 _ _ _ _ _ _ _ _ _ _ _)
   | (with_reducible exact tags_Check.mono _ _)
   | (with_reducible exact LeO.refl _)
   | (with_reducible exact LeO.none _)
   | (with_reducible refine LeO.ite ?_ ?_)
   | (with_reducible refine LeO.bind ?_ (fun _ => ?_))
   | exact ih0 _ _ _ _ _ _
   | exact ih1 _ _ _ _ _ _ _ _ _ _ _ _
   | exact ih2 _ _ _ _ _ _ _ _ _ _ _
   | exact tags_Check.mono _ _
   | exact LeO.none _
   | refine LeO.ite ?_ ?_
   | refine LeO.bind ?_ (fun _ => ?_)
theorem data_checker_checkNodes.mono : ∀ a0 a1 a2 k, LeO (data_checker_checkNodes.f k a0 a1 a2) (data_checker_checkNodes.f (k + 1) a0 a1 a2) := by
 intro a0 a1 a2 k; obtain ⟨ih0, ih1, ih2⟩ := data_checker_checkNodes.mono_l k; unfold data_checker_checkNodes.f
 repeat' first
   | (with_reducible exact ih0 _ _ _ _ _ _)
   | (with_reducible exact ih1 _ _ _ _ _ _ _ _ _ _ _ _)
   | (with_reducible exact ih2 _ _ _ _ _ _ _ _ _ _ _)
   | (with_reducible exact tags_Check.mono _ _)
   | (with_reducible exact LeO.refl _)
   | (with_reducible exact LeO.none _)
   | (with_reducible refine LeO.ite ?_ ?_)
   | (with_reducible refine LeO.bind ?_ (fun _ => ?_))
   | exact ih0 _ _ _ _ _ _
   | exact ih1 _ _ _ _ _ _ _ _ _ _ _ _
   | exact ih2 _ _ _ _ _ _ _ _ _ _ _
   | exact tags_Check.mono _ _
   | exact LeO.none _
   | refine LeO.ite ?_ ?_
   | refine LeO.bind ?_ (fun _ => ?_)
set_option maxHeartbeats 8000000 in
set_option maxRecDepth 100000 in
theorem data_checker_checkNodes.calls (k M1 M2 : Nat) (A0_0 : Option Addr) (c0_0 : Nat) (l0_0 : List (S37)) (A0_1 : Option Addr) (c0_1 : Nat) (l0_1 : List (S40)) (A0_2 : Option Addr) (c0_2 : Nat) (l0_2 : List (S43)) (r : Int) (w : World) (hr0_0 : Kd.C k37 w A0_0 l0_0.length l0_0) (hc0_0 : l0_0.length ≤ c0_0) (hr0_1 : Kd.C k40 w A0_1 l0_1.length l0_1) (hc0_1 : l0_1.length ≤ c0_1) (hr0_2 : Kd.C k43 w A0_2 l0_2.length l0_2) (hc0_2 : l0_2.length ≤ c0_2) (hm1 : HasIds w M1 (l0_0.map (fun x => x.f0))) (hm2 : HasIds w M2 (l0_1.map (fun x => x.f0))) (h : data_checker_checkNodes.f k l0_0 l0_1 l0_2 = some r) :
  Calls Tryz.prog 50 #[.agg #[.slice A0_0 l0_0.length c0_0, .slice A0_1 l0_1.length c0_1, .slice A0_2 l0_2.length c0_2, .map (some M1), .map (some M2)]] w fun e w' => e = .returned (.int .i64 r) ∧ Below w.heap.size w w' := by
 have hu26 := Tryz.underlying26; have hu37 := Tryz.underlying37; have HR0_0 := aM hr0_0; have HC0_0 := aM hc0_0; clear hr0_0 hc0_0; have HR0_1 := aM hr0_1; have HC0_1 := aM hc0_1; clear hr0_1 hc0_1; have HR0_2 := aM hr0_2; have HC0_2 := aM hc0_2; clear hr0_2 hc0_2; have HB := aM (Below.refl w.heap.size w); have HM1 := aM hm1; have HM2 := aM hm2; clear hm1 hm2; have hu98 := Tryz.underlying98; have H : (data_checker_checkNodes.l0 k l0_0 (l0_0.length : Int) 0 l0_0 l0_1 l0_2) = some r := h; clear h; have H' := aM H; clear H; go_enter Tryz.func50, Tryz.ntmps50
 go_wp2_with (first | ((with_reducible refine gate_dst (N := 1) rfl ?_); refine bx (N := 1) (cs := #[.slice A0_0 l0_0.length c0_0, .slice A0_1 l0_1.length c0_1, .slice A0_2 l0_2.length c0_2, .map (some M1), .map (some M2)]) (t := 98) ?_; intro gb118 hg w2 hbox hb; have BK118 := aM (hbox); have GE118 := aM (gw (w := w) hg); replace HB := aM (bS (bl) hb); clear hb hbox hg; have hcz3_0 : w2.cell? ⟨gb118, 0, none⟩ = some (.slice A0_0 l0_0.length c0_0) := (kC BK118.out 0).trans rfl; have hcz3_1 : w2.cell? ⟨gb118, 1, none⟩ = some (.slice A0_1 l0_1.length c0_1) := (kC BK118.out 1).trans rfl; have hcz3_2 : w2.cell? ⟨gb118, 2, none⟩ = some (.slice A0_2 l0_2.length c0_2) := (kC BK118.out 2).trans rfl; have hfz3_0 := kF BK118.out 0; have hfz3_1 := kF BK118.out 1; have hfz3_2 := kF BK118.out 2))
 go_loopg [10] k (fun kq v10 w' => ∃ (x10_1 : Int), v10 = .int .i64 x10_1 ∧ Aside0 (data_checker_checkNodes.l0 kq l0_0 (l0_0.length : Int) x10_1 l0_0 l0_1 l0_2 = some r) ∧ Aside0 (kq ≤ k) ∧ Aside0 (w'.heap[gb118]? = some (.cells #[(.slice A0_0 l0_0.length c0_0), (.slice A0_1 l0_1.length c0_1), (.slice A0_2 l0_2.length c0_2), .map (some M1), .map (some M2)] 98 (0, 0))) ∧ Aside0 (Below w.heap.size w w'))
 case atStart => exact ⟨(0), (by first | rfl | (simp; done) | (simp [*]; done)), H', ⟨Nat.le_refl _⟩, ⟨kl BK118⟩, ⟨bl⟩⟩
 case round =>
  clear H'; (try clear hcz3_0 hcz3_1 hcz3_2 hfz3_0 hfz3_1 hfz3_2); obtain ⟨x10_1, rfl, HA, HK1, BK118, HB⟩ := hrel
  cases gk with
  | zero => exact absurd HA.out (by simp [data_checker_checkNodes.l0])
  | succ k1 =>
   have H := HA.out; clear HA; simp only [data_checker_checkNodes.l0] at H
   by_cases c4 : x10_1 < (l0_0.length : Int)
   ·rw [if_pos c4] at H; have c4b0 : decide (x10_1 < (l0_0.length : Int)) = true := decide_eq_true c4; clear c4
    by_cases c5 : 0 ≤ x10_1
    ·rw [if_pos c5] at H; have c5b0 : decide (0 ≤ x10_1) = true := decide_eq_true c5; clear c5
     by_cases c6 : x10_1 < (l0_0.length : Int)
     ·rw [if_pos c6] at H; have c6b0 : decide (x10_1 < (l0_0.length : Int)) = true := decide_eq_true c6; clear c6; replace H := Option.bind_eq_some_iff.mp H; obtain ⟨t121, A70, H⟩ := H; (try dsimp only at H); have A7 := aM A70; clear A70; have HC8 := aM H; clear H; have p119 : 0 ≤ (x10_1 : Int) := oT; have q119 : x10_1 < (l0_0.length : Int) := oT; obtain ⟨ad119, A119_3, c119_3, e119, hx119_0, hx119_1, hx119_2, hx119_3, hl119_3, hi119_3⟩ := at_T37 HR0_0.out x10_1 p119 q119; cases e119
      replace hx119_0 := hs HB.out hx119_0; replace hx119_1 := hs HB.out hx119_1; replace hx119_2 := hs HB.out hx119_2; replace hx119_3 := hs HB.out hx119_3; have HR119_3 := aM hi119_3; have HC119_3 := aM hl119_3; clear hi119_3 hl119_3; replace p119 := eq_true p119; replace q119 := eq_true q119
      go_upto_region 5 with (first | ((with_reducible refine gate_dst (N := 4) rfl ?_); refine bx (N := 4) (cs := #[.int .i64 0, .int .i64 0, .int .i64 0, .slice none 0 0]) (t := 37) ?_; intro gb120 hg w9 hbox hb; have BK120 := aM (hbox); have GE120 := aM (gw (w := w) hg); obtain ⟨NB118_120, NB120_118⟩ := n2 BK118 hg; replace BK118 := aM (kB (kl BK118) hb); replace HB := aM (bS (bl) hb); clear hb hbox hg; have hn10 := nn NB120_118; have hz11 := bc4 BK120; have hcz12_0 : w9.cell? ⟨gb118, 0, none⟩ = some (.slice (some ad119) l0_0.length c0_0) := (kC BK118.out 0).trans rfl; have hcz12_1 : w9.cell? ⟨gb118, 1, none⟩ = some (.slice A0_1 l0_1.length c0_1) := (kC BK118.out 1).trans rfl; have hcz12_2 : w9.cell? ⟨gb118, 2, none⟩ = some (.slice A0_2 l0_2.length c0_2) := (kC BK118.out 2).trans rfl; have hfz12_0 := kF BK118.out 0; have hfz12_1 := kF BK118.out 1; have hfz12_2 := kF BK118.out 2) | ((with_reducible refine gate_callee (f := 67) rfl ?_); refine goesL_ (some 17) rfl rfl Tryz.func67 (by kernel_rfl) rfl #[.int .i64 x10_1, .func (.func 68) #[] #[.pointer (some ⟨gb118, 0, none⟩)]] rfl (by (try simp only [List.map_toArray, List.map_cons, List.map_nil]); first | done | rfl | (simp only [List.length_drop, List.length_take]; rfl)) ?_; (with_reducible refine (data_ids_by_data_checker_checkNodes_1.callsB gb118 M1 M2 x10_1 (some ad119) c0_0 l0_0 A0_1 c0_1 l0_1 A0_2 c0_2 l0_2 t121 _ ?side1 ?side2 ?side3 ?side4 ?side5 ?side6 ?sideB A7.out).mono ?_); (case sideB => exact (bk BK118)); (case side1 => exact Kd.C_below HR0_0.out (bl)); (case side2 => exact HC0_0.out); (case side3 => exact Kd.C_below HR0_1.out (bl)); (case side4 => exact HC0_1.out); (case side5 => exact Kd.C_below HR0_2.out (bl)); (case side6 => exact HC0_2.out); rintro e w13 ⟨rfl, hb⟩; refine ⟨_, rfl, ?_⟩; replace BK118 := aM (kB (g := gb118) (o := .cells #[.slice (some ad119) l0_0.length c0_0, .slice A0_1 l0_1.length c0_1, .slice A0_2 l0_2.length c0_2, .map (some M1), .map (some M2)] 98 (0, 0)) (bk BK118) hb); replace BK120 := aM (kB (g := gb120) (o := .cells #[.int .i64 ((rd_T37 l0_0 x10_1).f0), .int .i64 ((rd_T37 l0_0 x10_1).f1.f0), .int .i64 ((rd_T37 l0_0 x10_1).f1.f1), .slice A119_3 ((rd_T37 l0_0 x10_1).f2).length c119_3] 37 (0, 0)) (bk BK120) hb); replace HB := aM (bS (bl) hb); (try clear hb)))
      (try simp only [Act.put, sA, sB, sC])
      go_cut [43] (fun v43 wc => ∃ (kq : Nat) (x43_7 : Bool), v43 = .bool x43_7 ∧ Aside0 (data_checker_checkNodes.j1 kq t121 l0_0 (l0_0.length : Int) x10_1 x43_7 l0_0 l0_1 l0_2 ((rd_T37 l0_0 x10_1).f0) ((rd_T37 l0_0 x10_1).f1.f0) ((rd_T37 l0_0 x10_1).f1.f1) ((rd_T37 l0_0 x10_1).f2) = some r) ∧ Aside0 (kq ≤ k1) ∧ Aside0 (wc.heap[gb118]? = some (.cells #[(.slice (some ad119) l0_0.length c0_0), (.slice A0_1 l0_1.length c0_1), (.slice A0_2 l0_2.length c0_2), .map (some M1), .map (some M2)] 98 (0, 0))) ∧ Aside0 (wc.heap[gb120]? = some (.cells #[.int .i64 ((rd_T37 l0_0 x10_1).f0), .int .i64 ((rd_T37 l0_0 x10_1).f1.f0), .int .i64 ((rd_T37 l0_0 x10_1).f1.f1), (.slice A119_3 ((rd_T37 l0_0 x10_1).f2).length c119_3)] 37 (0, 0))) ∧ Aside0 (Below w.heap.size w wc))
      case first =>
       have H := HC8.out; clear HC8
       by_cases c14 : t121 = 0
       ·rw [if_pos c14] at H; have c14b0 : (t121 == 0) = true := beq_iff_eq.mpr c14; have c14b1 : (t121 != 0) = false := bne_eq_false_iff_eq.mpr c14; clear c14
        (first | rw [c14b0] | (simp only [i64_w, i32_w]; rw [c14b0]) | skip)
        by_cases c15 : ((rd_T37 l0_0 x10_1).f1.f0) < (-1800000000)
        ·rw [if_pos c15] at H; have c15b0 : decide (((rd_T37 l0_0 x10_1).f1.f0) < (-1800000000)) = true := decide_eq_true c15; clear c15; have H' := aM H; clear H; have hn16 := nn NB120_118; have hz17 := bc4 BK120
         go_wp2
         go_meet
         case rel => exact ⟨_, (true), (by first | rfl | (simp; done) | (simp [*]; done)), H', ⟨by have := HK1.out; first | omega | exact Nat.le_refl _⟩, ⟨kl BK118⟩, ⟨kl BK120⟩, ⟨bl⟩⟩
        ·rw [if_neg c15] at H; have c15b0 : decide (((rd_T37 l0_0 x10_1).f1.f0) < (-1800000000)) = false := decide_eq_false c15; clear c15
         by_cases c18 : ((rd_T37 l0_0 x10_1).f1.f0) > 1800000000
         ·rw [if_pos c18] at H; have c18b0 : decide (1800000000 < ((rd_T37 l0_0 x10_1).f1.f0)) = true := decide_eq_true c18; clear c18; have H' := aM H; clear H; have hn19 := nn NB120_118; have hz20 := bc4 BK120
          go_wp2
          go_meet
          case rel => exact ⟨_, (true), (by first | rfl | (simp; done) | (simp [*]; done)), H', ⟨by have := HK1.out; first | omega | exact Nat.le_refl _⟩, ⟨kl BK118⟩, ⟨kl BK120⟩, ⟨bl⟩⟩
         ·rw [if_neg c18] at H; have c18b0 : decide (1800000000 < ((rd_T37 l0_0 x10_1).f1.f0)) = false := decide_eq_false c18; clear c18
          by_cases c21 : ((rd_T37 l0_0 x10_1).f1.f1) < (-900000000)
          ·rw [if_pos c21] at H; have c21b0 : decide (((rd_T37 l0_0 x10_1).f1.f1) < (-900000000)) = true := decide_eq_true c21; clear c21; have H' := aM H; clear H; have hn22 := nn NB120_118; have hz23 := bc4 BK120
           go_wp2
           go_meet
           case rel => exact ⟨_, (true), (by first | rfl | (simp; done) | (simp [*]; done)), H', ⟨by have := HK1.out; first | omega | exact Nat.le_refl _⟩, ⟨kl BK118⟩, ⟨kl BK120⟩, ⟨bl⟩⟩
          ·rw [if_neg c21] at H; have c21b0 : decide (((rd_T37 l0_0 x10_1).f1.f1) < (-900000000)) = false := decide_eq_false c21; clear c21; have H' := aM H; clear H; have hn24 := nn NB120_118; have hz25 := bc4 BK120
           go_wp2
           go_meet
           case rel => exact ⟨_, (decide (((rd_T37 l0_0 x10_1).f1.f1) > 900000000)), (by first | rfl | (simp; done) | (simp [*]; done)), H', ⟨by have := HK1.out; first | omega | exact Nat.le_refl _⟩, ⟨kl BK118⟩, ⟨kl BK120⟩, ⟨bl⟩⟩
       ·rw [if_neg c14] at H; have c14b0 : (t121 == 0) = false := beq_eq_false_iff_ne.mpr c14; have c14b1 : (t121 != 0) = true := bne_iff_ne.mpr c14
        (first | rw [c14b0] | (simp only [i64_w, i32_w]; rw [c14b0]) | skip)
        have H' := aM H; clear H
        go_wp2
        go_meet
        case rel => exact ⟨_, (false), (by first | rfl | (simp; done) | (simp [*]; done)), H', ⟨by have := HK1.out; first | omega | exact Nat.le_refl _⟩, ⟨kl BK118⟩, ⟨kl BK120⟩, ⟨bl⟩⟩
      case rest =>
       clear HC8; (try clear c4); (try clear c4b0); (try clear c5); (try clear c5b0); (try clear c6); (try clear c6b0); (try clear c14); (try clear c14b0); (try clear c14b1); (try clear c15); (try clear c15b0); (try clear c18); (try clear c18b0); (try clear c21); (try clear c21b0); (try clear hz11); (try clear hcz12_0 hcz12_1 hcz12_2 hfz12_0 hfz12_1 hfz12_2); (try clear hz17); (try clear hz20); (try clear hz23); (try clear hz25); (try clear hcz3_0 hcz3_1 hcz3_2 hfz3_0 hfz3_1 hfz3_2); (try clear hx119_0); (try clear hx119_1); (try clear hx119_2); (try clear hx119_3); (try clear p119); (try clear q119); obtain ⟨kq, x43_7, rfl, HA, HJ7, BK118, BK120, HB⟩ := hcut
       cases kq with
       | zero => exact absurd HA.out (by simp [data_checker_checkNodes.j1])
       | succ kj7 =>
        have H := HA.out; clear HA; simp only [data_checker_checkNodes.j1] at H; have HC26 := aM H; clear H
        go_upto_if 43 with (fail)
        go_cut [5] (fun v5 wc => ∃ (kq : Nat) (x5_25 : Int), v5 = .int .i64 x5_25 ∧ Aside0 (data_checker_checkNodes.j2 kq x5_25 l0_0 (l0_0.length : Int) x10_1 l0_0 l0_1 l0_2 ((rd_T37 l0_0 x10_1).f0) ((rd_T37 l0_0 x10_1).f1.f0) ((rd_T37 l0_0 x10_1).f1.f1) ((rd_T37 l0_0 x10_1).f2) = some r) ∧ Aside0 (kq ≤ kj7) ∧ Aside0 (wc.heap[gb118]? = some (.cells #[(.slice (some ad119) l0_0.length c0_0), (.slice A0_1 l0_1.length c0_1), (.slice A0_2 l0_2.length c0_2), .map (some M1), .map (some M2)] 98 (0, 0))) ∧ Aside0 (wc.heap[gb120]? = some (.cells #[.int .i64 ((rd_T37 l0_0 x10_1).f0), .int .i64 ((rd_T37 l0_0 x10_1).f1.f0), .int .i64 ((rd_T37 l0_0 x10_1).f1.f1), (.slice A119_3 ((rd_T37 l0_0 x10_1).f2).length c119_3)] 37 (0, 0))) ∧ Aside0 (Below w.heap.size w wc))
        case first =>
         have H := HC26.out; clear HC26
         by_cases c27 : x43_7 = true
         ·subst c27; have H1 : (data_checker_checkNodes.j2 kj7 11 l0_0 (l0_0.length : Int) x10_1 l0_0 l0_1 l0_2 ((rd_T37 l0_0 x10_1).f0) ((rd_T37 l0_0 x10_1).f1.f0) ((rd_T37 l0_0 x10_1).f1.f1) ((rd_T37 l0_0 x10_1).f2)) = some r := by rw [if_pos rfl] at H; exact H
          clear H; have H := H1; clear H1; have H' := aM H; clear H
          go_wp2
          go_meet
          case rel => exact ⟨_, (11), (by first | rfl | (simp; done) | (simp [*]; done)), H', ⟨by have := HK1.out; have := HJ7.out; first | omega | exact Nat.le_refl _⟩, ⟨kl BK118⟩, ⟨kl BK120⟩, ⟨bl⟩⟩
         ·replace c27 := Bool.eq_false_iff.mpr c27; subst c27; have H1 : (data_checker_checkNodes.j2 kj7 t121 l0_0 (l0_0.length : Int) x10_1 l0_0 l0_1 l0_2 ((rd_T37 l0_0 x10_1).f0) ((rd_T37 l0_0 x10_1).f1.f0) ((rd_T37 l0_0 x10_1).f1.f1) ((rd_T37 l0_0 x10_1).f2)) = some r := by rw [if_neg (show ¬ (false = true) by decide)] at H; exact H
          clear H; have H := H1; clear H1; have H' := aM H; clear H
          go_wp2
          go_meet
          case rel => exact ⟨_, (t121), (by first | rfl | (simp; done) | (simp [*]; done)), H', ⟨by have := HK1.out; have := HJ7.out; first | omega | exact Nat.le_refl _⟩, ⟨kl BK118⟩, ⟨kl BK120⟩, ⟨bl⟩⟩
        case rest =>
         clear HC26; (try clear c4); (try clear c4b0); (try clear c5); (try clear c5b0); (try clear c6); (try clear c6b0); (try clear c14); (try clear c14b0); (try clear c14b1); (try clear c15); (try clear c15b0); (try clear c18); (try clear c18b0); (try clear c21); (try clear c21b0); (try clear c27); (try clear hz11); (try clear hcz12_0 hcz12_1 hcz12_2 hfz12_0 hfz12_1 hfz12_2); (try clear hz17); (try clear hz20); (try clear hz23); (try clear hz25); (try clear hcz3_0 hcz3_1 hcz3_2 hfz3_0 hfz3_1 hfz3_2); (try clear hx119_0); (try clear hx119_1); (try clear hx119_2); (try clear hx119_3); (try clear p119); (try clear q119); obtain ⟨kq, x5_25, rfl, HA, HJ25, BK118, BK120, HB⟩ := hcut
         cases kq with
         | zero => exact absurd HA.out (by simp [data_checker_checkNodes.j2])
         | succ kj25 =>
          have H := HA.out; clear HA; simp only [data_checker_checkNodes.j2] at H
          by_cases c28 : x5_25 = 0
          ·rw [if_pos c28] at H; have c28b0 : (x5_25 == 0) = true := beq_iff_eq.mpr c28; have c28b1 : (x5_25 != 0) = false := bne_eq_false_iff_eq.mpr c28; clear c28; replace H := Option.bind_eq_some_iff.mp H; obtain ⟨t122, A290, H⟩ := H; (try dsimp only at H); have A29 := aM A290; clear A290
           by_cases c30 : t122 = 0
           ·rw [if_pos c30] at H; have c30b0 : (t122 == 0) = true := beq_iff_eq.mpr c30; have c30b1 : (t122 != 0) = false := bne_eq_false_iff_eq.mpr c30; clear c30; have H' := aM H; clear H; have hn31 := nn NB120_118; have hz32 := bc4 BK120
            go_wp2_with (first | ((with_reducible refine gate_callee (f := 69) rfl ?_); refine goesL_ (some 48) rfl rfl Tryz.func69 (by kernel_rfl) rfl #[.slice A119_3 ((rd_T37 l0_0 x10_1).f2).length c119_3] rfl (by (try simp only [List.map_toArray, List.map_cons, List.map_nil]); first | done | rfl | (simp only [List.length_drop, List.length_take]; rfl)) ?_; (with_reducible refine (tags_Check.calls kj25 _ _ ((rd_T37 l0_0 x10_1).f2) t122 _ ?side1 ?side2 A29.out).mono ?_); (case side1 => exact cl HR119_3); (case side2 => exact HC119_3.out); rintro e w33 ⟨rfl, hb⟩; refine ⟨_, rfl, ?_⟩; replace BK118 := aM (kB (kl BK118) hb); replace HB := aM (bS (bl) hb); clear BK120; (try clear hb)))
            go_roundg kj25
            case measure => have := HK1.out; have := HJ7.out; have := HJ25.out; omega
            case rel => exact ⟨(wrap64 (x10_1 + 1)), (by first | rfl | (simp; done) | (simp [*]; done)), H', ⟨by have := HK1.out; have := HJ7.out; have := HJ25.out; omega⟩, ⟨kl BK118⟩, ⟨bl⟩⟩
           ·rw [if_neg c30] at H; have c30b0 : (t122 == 0) = false := beq_eq_false_iff_ne.mpr c30; have c30b1 : (t122 != 0) = true := bne_iff_ne.mpr c30; obtain rfl := Option.some.inj H; have hn34 := nn NB120_118; have hz35 := bc4 BK120
            go_wp2_with (first | ((with_reducible refine gate_callee (f := 69) rfl ?_); refine goesL_ (some 48) rfl rfl Tryz.func69 (by kernel_rfl) rfl #[.slice A119_3 ((rd_T37 l0_0 x10_1).f2).length c119_3] rfl (by (try simp only [List.map_toArray, List.map_cons, List.map_nil]); first | done | rfl | (simp only [List.length_drop, List.length_take]; rfl)) ?_; (with_reducible refine (tags_Check.calls kj25 _ _ ((rd_T37 l0_0 x10_1).f2) t122 _ ?side1 ?side2 A29.out).mono ?_); (case side1 => exact cl HR119_3); (case side2 => exact HC119_3.out); rintro e w36 ⟨rfl, hb⟩; refine ⟨_, rfl, ?_⟩; replace HB := aM (bS (bl) hb); clear BK118 BK120; (try clear hb)))
            go_ret; exact ⟨by first | rfl | (simp [errW_none, errW_some] <;> rfl) | (simp [*, errW_none, errW_some] <;> rfl), bl⟩
          ·rw [if_neg c28] at H; have c28b0 : (x5_25 == 0) = false := beq_eq_false_iff_ne.mpr c28; have c28b1 : (x5_25 != 0) = true := bne_iff_ne.mpr c28; obtain rfl := Option.some.inj H
           go_wp2
           go_ret; exact ⟨by first | rfl | (simp [errW_none, errW_some] <;> rfl) | (simp [*, errW_none, errW_some] <;> rfl), bl⟩
     ·rw [if_neg c6] at H; exact absurd H (by simp)
    ·rw [if_neg c5] at H; exact absurd H (by simp)
   ·rw [if_neg c4] at H; have c4b0 : decide (x10_1 < (l0_0.length : Int)) = false := decide_eq_false c4; clear c4; obtain rfl := Option.some.inj H
    go_wp2
    go_ret; exact ⟨by first | rfl | (simp [errW_none, errW_some] <;> rfl) | (simp [*, errW_none, errW_some] <;> rfl), bl⟩
-- NOT PRINTED: function 71 (slices_ContainsFunc_int_int)
set_option maxHeartbeats 4000000 in
set_option maxRecDepth 100000 in
theorem closure70 (A1_0 : Option Addr) (c1_0 : Nat) (l1_0 : List S37) (A1_1 : Option Addr) (c1_1 : Nat) (l1_1 : List S40) (A1_2 : Option Addr) (c1_2 : Nat) (l1_2 : List S43) (M1 M2 : Value) (B : Nat) (w : World)
  (hB : w.heap[B]? = some (.cells #[.slice A1_0 l1_0.length c1_0, .slice A1_1 l1_1.length c1_1, .slice A1_2 l1_2.length c1_2, M1, M2] 98 (0, 0))) (hr : Kd.C k40 w A1_1 l1_1.length l1_1) (j : Int) (h0 : 0 ≤ j) (h1 : j < (l1_1.length : Int)) :
  Calls Tryz.prog 70 (#[.int .i64 j] ++ #[.pointer (some ⟨B, 0, none⟩)]) w fun e w' => e = .returned (.int .i64 (rd_T40 l1_1 j).f0) ∧ w' = w := by
 have hu98 := Tryz.underlying98; have hu26 := Tryz.underlying26; have hu40 := Tryz.underlying40; have hb := hr.2.1; obtain ⟨ad, A1, c1, A2, c2, e0, hx0, hx1, hx2, hl1, hi1, hl2, hi2⟩ := at_T40 hr j h0 h1; cases e0
 have hc : w.cell? ⟨B, 1, none⟩ = some (.slice (some ad) l1_1.length c1_1) := (kC hB 1).trans rfl; have hf := kF hB 1; obtain ⟨n, rfl⟩ := Int.eq_ofNat_of_zero_le h0; rw [Int.toNat_natCast] at hx0 hx1 hx2; clear hB hr hl1 hi1 hl2 hi2; generalize (rd_T40 l1_1 (n : Int)) = x at hx0 hx1 hx2 ⊢
 show Calls Tryz.prog 70 #[.int .i64 (n : Int), .pointer (some ⟨B, 0, none⟩)] w _
 go_enter Tryz.func70, Tryz.ntmps70
 go_wp2
 go_ret; exact ⟨rfl, rfl⟩
def data_ids_by_data_checker_checkWays_1.f (a0 : Int) (l1_0 : List S37) (l1_1 : List S40) (l1_2 : List S43) : Option Int := if 0 ≤ a0 then (if a0 < (l1_1.length : Int) then some (idsF (fun j => (rd_T40 l1_1 j).f0) a0) else none) else none
theorem data_ids_by_data_checker_checkWays_1.callsB (B : Nat) (M1 M2 : Nat) (a0 : Int) (A1_0 : Option Addr) (c1_0 : Nat) (l1_0 : List S37) (A1_1 : Option Addr) (c1_1 : Nat) (l1_1 : List S40) (A1_2 : Option Addr) (c1_2 : Nat) (l1_2 : List S43) (r : Int) (w : World)
  (hr1_0 : Kd.C k37 w A1_0 l1_0.length l1_0) (hc1_0 : l1_0.length ≤ c1_0) (hr1_1 : Kd.C k40 w A1_1 l1_1.length l1_1) (hc1_1 : l1_1.length ≤ c1_1) (hr1_2 : Kd.C k43 w A1_2 l1_2.length l1_2) (hc1_2 : l1_2.length ≤ c1_2)
  (hB : w.heap[B]? = some (.cells #[.slice A1_0 l1_0.length c1_0, .slice A1_1 l1_1.length c1_1, .slice A1_2 l1_2.length c1_2, .map (some M1), .map (some M2)] 98 (0, 0))) (h : data_ids_by_data_checker_checkWays_1.f a0 l1_0 l1_1 l1_2 = some r) :
  Calls Tryz.prog 67 #[.int .i64 a0, .func (.func 70) #[] #[.pointer (some ⟨B, 0, none⟩)]] w fun e w' => e = .returned (.int .i64 r) ∧ Below w.heap.size w w' := by
 unfold data_ids_by_data_checker_checkWays_1.f at h
 split at h
 case isFalse => cases h
 split at h
 case isFalse => cases h
 rename_i h0 h1
 obtain rfl := Option.some.inj h; have eg : ∀ args w, (callFunc 70 args).run Tryz.prog w = .ok (.enter 70 args) w := enters_of Tryz.func70 (by kernel_rfl) rfl; have hb := hr1_1.2.1; refine (ids67 (fun j => (rd_T40 l1_1 j).f0) 70 #[.pointer (some ⟨B, 0, none⟩)] eg a0 w h0 (by omega) (fun j hj => closure70 A1_0 c1_0 l1_0 A1_1 c1_1 l1_1 A1_2 c1_2 l1_2 (.map (some M1)) (.map (some M2)) B w hB hr1_1 j (by omega) (by omega))).mono ?_; rintro e w' ⟨rfl, rfl⟩; exact ⟨rfl, Below.refl _ _⟩
def ixOf {α : Type} (p : α → Bool) (l : List α) : Int := match l.findIdx? p with | some i => (i : Int) | none => -1
theorem ixOf_hit {α : Type} (p : α → Bool) (l : List α) (z : α) (k : Nat) (hk : k < l.length) (h : p (l.getD k z) = true) (hb : ∀ j, j < k → p (l.getD j z) = false) : ixOf p l = k := by
 have e : l.findIdx? p = some k := by
  rw [List.findIdx?_eq_some_iff_getElem]; refine ⟨hk, ?_, fun j hj => ?_⟩
  ·simpa [List.getD_eq_getElem?_getD, List.getElem?_eq_getElem hk] using h
  ·have := hb j hj
   simpa [List.getD_eq_getElem?_getD, List.getElem?_eq_getElem (show j < l.length by omega)] using this
 unfold ixOf; rw [e]
theorem ixOf_miss {α : Type} (p : α → Bool) (l : List α) (z : α) (hb : ∀ j, j < l.length → p (l.getD j z) = false) : ixOf p l = -1 := by
 have e : l.findIdx? p = none := by
  rw [List.findIdx?_eq_none_iff]; intro x hx; obtain ⟨j, hj, rfl⟩ := List.getElem_of_mem hx; have := hb j hj
  simpa [List.getD_eq_getElem?_getD, List.getElem?_eq_getElem hj] using this
 unfold ixOf; rw [e]
theorem ixOf_any {α : Type} (p : α → Bool) (l : List α) : decide (0 ≤ ixOf p l) = l.any p := by
 unfold ixOf
 cases h : l.findIdx? p with
 | none =>
  have h2 := List.findIdx?_eq_none_iff.mp h; have : l.any p = false := by rw [List.any_eq_false]; intro x hx; rw [h2 x hx]; exact Bool.false_ne_true
  rw [this]; rfl
 | some i =>
  have h2 := List.findIdx?_eq_some_iff_getElem.mp h; obtain ⟨hi, hp, _⟩ := h2; have : l.any p = true := List.any_eq_true.mpr ⟨_, List.getElem_mem hi, hp⟩; rw [this]; exact decide_eq_true (by show (0 : Int) ≤ (i : Int); omega)
set_option maxHeartbeats 4000000 in
set_option maxRecDepth 100000 in
theorem ixInt94 (p : Int → Bool) (g : Nat) (lb : Array Value) (eg : ∀ args w, (callFunc g args).run Tryz.prog w = .ok (.enter g args) w) (A0 : Option Addr) (c0 : Nat) (l0 : List Int) (w : World) (hr0 : Kd.C (Kd.int .i64) w A0 l0.length l0)
  (hp : ∀ (W : World) (x : Int), x ∈ l0 → Below w.heap.size w W → Calls Tryz.prog g (#[.int .i64 x] ++ lb) W fun e w' => e = .returned (.bool (p x)) ∧ Below w.heap.size w w') :
  Calls Tryz.prog 94 #[.slice A0 l0.length c0, .func (.func g) #[] lb] w fun e w' => e = .returned (.int .i64 (ixOf p l0)) ∧ Below w.heap.size w w' := by
 have hbig : l0.length ≤ 9223372036854775807 := hr0.2.1; have HR0 := aM hr0; clear hr0; have HP := aM hp; clear hp; go_enter Tryz.func94, Tryz.ntmps94
 go_wp2
 go_loopg [5, 8] l0.length (fun gg _ s8 wr => ∃ kk : Int, 0 ≤ kk ∧ kk ≤ (l0.length : Int) ∧ (l0.length : Int) - kk ≤ gg ∧ s8 = .int .i64 kk ∧ Aside0 (Below w.heap.size w wr) ∧ Aside0 (∀ j : Nat, (j : Int) < kk → p (l0.getD j 0) = false))
 case atStart => exact ⟨0, by omega, by omega, by omega, rfl, ⟨Below.refl _ w⟩, ⟨fun j hj => absurd hj (by omega)⟩⟩
 case round =>
  obtain ⟨kk, hk0, hkk, hg, rfl, BW, AA⟩ := hrel
  by_cases hlt : kk < (l0.length : Int)
  ·obtain ⟨ad, e0, hx0⟩ := Kd.at_int (Kd.C_below HR0.out BW.out) kk hk0 hlt; cases e0
   have hm : rd l0 kk ∈ l0 := by unfold rd; rw [List.getD_eq_getElem?_getD, List.getElem?_eq_getElem (show kk.toNat < l0.length by omega)]; exact List.getElem_mem _
   have hcall := HP.out wr (rd l0 kk) hm BW.out; have B := aM (show rd l0 kk = l0.getD kk.toNat 0 from rfl); clear hm; generalize rd l0 kk = y at hcall hx0 B
   cases hq : p y with
   | true =>
    rw [hq] at hcall; have HQ := aM hq; clear hq
    go_wp2_with (go_at_fn g; refine hcall.mono ?_; rintro e w' ⟨rfl, hb'⟩)
    go_ret; refine ⟨?_, hb'⟩; rw [ixOf_hit p l0 0 kk.toNat (by omega) (by rw [← B.out]; exact HQ.out) (fun j hj => AA.out j (by omega))]; rw [Int.toNat_of_nonneg hk0]; rfl
   | false =>
    rw [hq] at hcall; have HQ := aM hq; clear hq
    go_wp2_with (go_at_fn g; refine hcall.mono ?_; rintro e w' ⟨rfl, hb'⟩)
    go_roundg (l0.length - (kk.toNat + 1))
    case measure => omega
    case rel =>
     refine ⟨kk + 1, by omega, by omega, by omega, by go_num, ⟨hb'⟩, ⟨fun j hj => ?_⟩⟩
     by_cases e : (j : Int) = kk
     ·have : j = kk.toNat := by omega
      subst this; rw [← B.out]; exact HQ.out
     ·exact AA.out j (by omega)
  ·have : kk = (l0.length : Int) := by omega
   subst this
   go_wp2
   go_ret; refine ⟨?_, BW.out⟩; rw [ixOf_miss p l0 0 (fun j hj => AA.out j (by omega))]; rfl
set_option maxHeartbeats 4000000 in
set_option maxRecDepth 100000 in
theorem closure72 (c0 c1 c2 : Value) (M1 M2 B : Nat) (ids : List Int) (w : World) (hB : w.heap[B]? = some (.cells #[c0, c1, c2, .map (some M1), .map (some M2)] 98 (0, 0))) (hm : HasIds w M1 ids) (W : World) (x : Int) (hx : InI x) (hb : Below w.heap.size w W) :
  Calls Tryz.prog 72 (#[.int .i64 x] ++ #[.pointer (some ⟨B, 0, none⟩)]) W fun e w' => e = .returned (.bool (!ids.contains x)) ∧ Below w.heap.size w w' := by
 have hu98 := Tryz.underlying98; have hc : W.cell? ⟨B, 3, none⟩ = some (.map (some M1)) := (hb.cell (p := ⟨B, 3, none⟩) (blk_lt hB)).trans ((kC hB 3).trans rfl); have hlook := (hm.below hb).look hx; have HB := aM hb; clear hb hB hm; generalize ids.contains x = v at hlook ⊢
 show Calls Tryz.prog 72 #[.int .i64 x, .pointer (some ⟨B, 0, none⟩)] W _
 go_enter Tryz.func72, Tryz.ntmps72
 go_wp2
 go_ret; exact ⟨rfl, HB.out⟩
def slices_ContainsFunc_int_int_by_data_checker_checkWays_2.f (l0 : List Int) (l1_0 : List S37) (l1_1 : List S40) (l1_2 : List S43) : Option Bool := if ∀ n ∈ l0, InI n then some (l0.any (fun n => !(l1_0.map (fun x => x.f0)).contains n)) else none
set_option maxHeartbeats 4000000 in
set_option maxRecDepth 100000 in
theorem slices_ContainsFunc_int_int_by_data_checker_checkWays_2.callsB (B M1 M2 : Nat) (A0 : Option Addr) (c0 : Nat) (l0 : List Int) (A1_0 : Option Addr) (c1_0 : Nat) (l1_0 : List S37) (A1_1 : Option Addr) (c1_1 : Nat) (l1_1 : List S40) (A1_2 : Option Addr) (c1_2 : Nat) (l1_2 : List S43) (r : Bool) (w : World) (hr0 : Kd.C (Kd.int .i64) w A0 l0.length l0) (hc0 : l0.length ≤ c0) (hr1_0 : Kd.C k37 w A1_0 l1_0.length l1_0) (hc1_0 : l1_0.length ≤ c1_0) (hr1_1 : Kd.C k40 w A1_1 l1_1.length l1_1) (hc1_1 : l1_1.length ≤ c1_1) (hr1_2 : Kd.C k43 w A1_2 l1_2.length l1_2) (hc1_2 : l1_2.length ≤ c1_2)
  (hB : w.heap[B]? = some (.cells #[.slice A1_0 l1_0.length c1_0, .slice A1_1 l1_1.length c1_1, .slice A1_2 l1_2.length c1_2, .map (some M1), .map (some M2)] 98 (0, 0))) (hm1 : HasIds w M1 (l1_0.map (fun x => x.f0))) (h : slices_ContainsFunc_int_int_by_data_checker_checkWays_2.f l0 l1_0 l1_1 l1_2 = some r) :
  Calls Tryz.prog 71 #[.slice A0 l0.length c0, .func (.func 72) #[] #[.pointer (some ⟨B, 0, none⟩)]] w fun e w' => e = .returned (.bool r) ∧ Below w.heap.size w w' := by
 unfold slices_ContainsFunc_int_int_by_data_checker_checkWays_2.f at h
 split at h
 case isFalse => cases h
 rename_i hin
 obtain rfl := Option.some.inj h; clear h; have eg : ∀ args w, (callFunc 72 args).run Tryz.prog w = .ok (.enter 72 args) w := enters_of Tryz.func72 (by kernel_rfl) rfl; have HX := aM (ixInt94 (fun n => !(l1_0.map (fun x => x.f0)).contains n) 72 #[.pointer (some ⟨B, 0, none⟩)] eg A0 c0 l0 w hr0 (fun W x hx hb => closure72 _ _ _ M1 M2 B _ w hB hm1 W x (hin x hx) hb)); have HA := aM (ixOf_any (fun n => !(l1_0.map (fun x => x.f0)).contains n) l0); clear hr0 hr1_0 hr1_1 hr1_2 eg hB hm1 hin; generalize l0.any (fun n => !(l1_0.map (fun x => x.f0)).contains n) = r at HA ⊢; generalize ixOf (fun n => !(l1_0.map (fun x => x.f0)).contains n) l0 = n at HA HX; go_enter Tryz.func71, Tryz.ntmps71
 go_wp2_with (first | (go_at_call 94; refine HX.out.mono ?_; rintro e w1 ⟨rfl, hb1⟩) | go_in)
 go_ret; refine ⟨?_, hb1⟩; rw [← HA.out]; rfl
end Go.Proofs.YtijoaohckgbneaaGreat.PAll
