-- out of a driver of this session's prover over the kit's print: Lean checks it
import Derived.Test.YtijoaohckgbneaaPAllx0
import Derived.Test.YtijoaohckgbneaaPAllx7
import Derived.Test.YtijoaohckgbneaaPAllx8
namespace Go.Proofs.Ytijoaohckgbneaa.PAll
open Go.Proofs.YtijoaohckgbneaaG Go.Shelf Go.Lib
open Go.RowKit Go.Proofs.YtijoaohckgbneaaW.PrintWords Go.Proofs.YtijoaohckgbneaaW.PrintLast Go.Proofs.YtijoaohckgbneaaW.PrintMore
attribute [local go_sem] max2_int min2_int max_two min_two max_three min_three max_four min_four   -- for this text's walks alone
set_option linter.unusedVariables false
set_option linter.unusedSimpArgs false
def data_checker_checkWays.l0 : Nat → List (S45) → Int → Int → List (S42) → List (S45) → List (S48) → Option (Int)
 | 0, _, _, _, _, _, _ => none
 | k + 1, x8, x9, x10, x137000, x137001, x137002 => if x10 < x9 then (if 0 ≤ x10 then (if x10 < (x8.length : Int) then ((data_ids_by_data_checker_checkWays_1.f x10 x137000 x137001 x137002).bind fun t139 => (if t139 = 0 then (if (((rd_T45 x8 x10).f1).length : Int) < 2 then (if 12 = 0 then (data_checker_checkWays.l0 k x8 x9 (wrap64 (x10 + 1)) x137000 x137001 x137002) else (some 12)) else (if (((rd_T45 x8 x10).f1).length : Int) > 2000 then (if 5 = 0 then (data_checker_checkWays.l0 k x8 x9 (wrap64 (x10 + 1)) x137000 x137001 x137002) else (some 5)) else ((slices_ContainsFunc_int_int_by_data_checker_checkWays_2.f ((rd_T45 x8 x10).f1) x137000 x137001 x137002).bind fun t140 => (if t140 = true then (if 9 = 0 then (data_checker_checkWays.l0 k x8 x9 (wrap64 (x10 + 1)) x137000 x137001 x137002) else (some 9)) else ((tags_Check.f k ((rd_T45 x8 x10).f2)).bind fun t141 => (if t141 = 0 then (data_checker_checkWays.l0 k x8 x9 (wrap64 (x10 + 1)) x137000 x137001 x137002) else (some t141))))))) else (some t139))) else (none)) else (none)) else (some 0)
def data_checker_checkWays.f (k : Nat) (l0_0 : List (S42)) (l0_1 : List (S45)) (l0_2 : List (S48)) : Option (Int) := data_checker_checkWays.l0 k l0_1 (l0_1.length : Int) 0 l0_0 l0_1 l0_2
theorem data_checker_checkWays.mono_l : ∀ k, (∀ y0 y1 y2 y3 y4 y5, LeO (data_checker_checkWays.l0 k y0 y1 y2 y3 y4 y5) (data_checker_checkWays.l0 (k + 1) y0 y1 y2 y3 y4 y5))
 | 0 => fun _ _ _ _ _ _ r h => by simp [data_checker_checkWays.l0] at h
 | k + 1 => by
  have ih0 := data_checker_checkWays.mono_l k
  ·intro y0 y1 y2 y3 y4 y5
   unfold data_checker_checkWays.l0
   repeat' first
   | (with_reducible exact ih0 _ _ _ _ _ _)
   | (with_reducible exact tags_Check.mono _ _)
   | (with_reducible exact LeO.refl _)
   | (with_reducible exact LeO.none _)
   | (with_reducible refine LeO.ite ?_ ?_)
   | (with_reducible refine LeO.bind ?_ (fun _ => ?_))
   | exact ih0 _ _ _ _ _ _
   | exact tags_Check.mono _ _
   | exact LeO.none _
   | refine LeO.ite ?_ ?_
   | refine LeO.bind ?_ (fun _ => ?_)
theorem data_checker_checkWays.mono : ∀ a0 a1 a2 k, LeO (data_checker_checkWays.f k a0 a1 a2) (data_checker_checkWays.f (k + 1) a0 a1 a2) := by
 intro a0 a1 a2 k; have ih0 := data_checker_checkWays.mono_l k; unfold data_checker_checkWays.f
 repeat' first
   | (with_reducible exact ih0 _ _ _ _ _ _)
   | (with_reducible exact tags_Check.mono _ _)
   | (with_reducible exact LeO.refl _)
   | (with_reducible exact LeO.none _)
   | (with_reducible refine LeO.ite ?_ ?_)
   | (with_reducible refine LeO.bind ?_ (fun _ => ?_))
   | exact ih0 _ _ _ _ _ _
   | exact tags_Check.mono _ _
   | exact LeO.none _
   | refine LeO.ite ?_ ?_
   | refine LeO.bind ?_ (fun _ => ?_)
set_option maxHeartbeats 8000000 in
set_option maxRecDepth 100000 in
theorem data_checker_checkWays.calls (k M1 M2 : Nat) (A0_0 : Option Addr) (c0_0 : Nat) (l0_0 : List (S42)) (A0_1 : Option Addr) (c0_1 : Nat) (l0_1 : List (S45)) (A0_2 : Option Addr) (c0_2 : Nat) (l0_2 : List (S48)) (r : Int) (w : World) (hr0_0 : Kd.C k42 w A0_0 l0_0.length l0_0) (hc0_0 : l0_0.length ≤ c0_0) (hr0_1 : Kd.C k45 w A0_1 l0_1.length l0_1) (hc0_1 : l0_1.length ≤ c0_1) (hr0_2 : Kd.C k48 w A0_2 l0_2.length l0_2) (hc0_2 : l0_2.length ≤ c0_2) (hm1 : HasIds w M1 (l0_0.map (fun x => x.f0))) (hm2 : HasIds w M2 (l0_1.map (fun x => x.f0))) (h : data_checker_checkWays.f k l0_0 l0_1 l0_2 = some r) :
  Calls Try.prog 24 #[.agg #[.slice A0_0 l0_0.length c0_0, .slice A0_1 l0_1.length c0_1, .slice A0_2 l0_2.length c0_2, .map (some M1), .map (some M2)]] w fun e w' => e = .returned (.int .i64 r) ∧ Below w.heap.size w w' := by
 have hu26 := Try.underlying26; have hu45 := Try.underlying45; have HR0_0 := aM hr0_0; have HC0_0 := aM hc0_0; clear hr0_0 hc0_0; have HR0_1 := aM hr0_1; have HC0_1 := aM hc0_1; clear hr0_1 hc0_1; have HR0_2 := aM hr0_2; have HC0_2 := aM hc0_2; clear hr0_2 hc0_2; have HB := aM (Below.refl w.heap.size w); have HM1 := aM hm1; have HM2 := aM hm2; clear hm1 hm2; have hu74 := Try.underlying74; have H : (data_checker_checkWays.l0 k l0_1 (l0_1.length : Int) 0 l0_0 l0_1 l0_2) = some r := h; clear h; have H' := aM H; clear H; go_enter Try.func24, Try.ntmps24
 go_wp2_with (first | ((with_reducible refine gate_dst (N := 1) rfl ?_); refine bx (N := 1) (cs := #[.slice A0_0 l0_0.length c0_0, .slice A0_1 l0_1.length c0_1, .slice A0_2 l0_2.length c0_2, .map (some M1), .map (some M2)]) (t := 74) ?_; intro gb136 hg w2 hbox hb; have BK136 := aM (hbox); have GE136 := aM (gw (w := w) hg); replace HB := aM (bS (bl) hb); clear hb hbox hg; have hcz3_0 : w2.cell? ⟨gb136, 0, none⟩ = some (.slice A0_0 l0_0.length c0_0) := (kC BK136.out 0).trans rfl; have hcz3_1 : w2.cell? ⟨gb136, 1, none⟩ = some (.slice A0_1 l0_1.length c0_1) := (kC BK136.out 1).trans rfl; have hcz3_2 : w2.cell? ⟨gb136, 2, none⟩ = some (.slice A0_2 l0_2.length c0_2) := (kC BK136.out 2).trans rfl; have hfz3_0 := kF BK136.out 0; have hfz3_1 := kF BK136.out 1; have hfz3_2 := kF BK136.out 2))
 go_loopg [10] k (fun kq v10 w' => ∃ (x10_1 : Int), v10 = .int .i64 x10_1 ∧ Aside0 (data_checker_checkWays.l0 kq l0_1 (l0_1.length : Int) x10_1 l0_0 l0_1 l0_2 = some r) ∧ Aside0 (kq ≤ k) ∧ Aside0 (w'.heap[gb136]? = some (.cells #[(.slice A0_0 l0_0.length c0_0), (.slice A0_1 l0_1.length c0_1), (.slice A0_2 l0_2.length c0_2), .map (some M1), .map (some M2)] 74 (0, 0))) ∧ Aside0 (Below w.heap.size w w'))
 case atStart => exact ⟨(0), (by first | rfl | (simp; done) | (simp [*]; done)), H', ⟨Nat.le_refl _⟩, ⟨kl BK136⟩, ⟨bl⟩⟩
 case round =>
  clear H'; (try clear hcz3_0 hcz3_1 hcz3_2 hfz3_0 hfz3_1 hfz3_2); obtain ⟨x10_1, rfl, HA, HK1, BK136, HB⟩ := hrel
  cases gk with
  | zero => exact absurd HA.out (by simp [data_checker_checkWays.l0])
  | succ k1 =>
   have H := HA.out; clear HA; simp only [data_checker_checkWays.l0] at H
   by_cases c4 : x10_1 < (l0_1.length : Int)
   ·rw [if_pos c4] at H; have c4b0 : decide (x10_1 < (l0_1.length : Int)) = true := decide_eq_true c4; clear c4
    by_cases c5 : 0 ≤ x10_1
    ·rw [if_pos c5] at H; have c5b0 : decide (0 ≤ x10_1) = true := decide_eq_true c5; clear c5
     by_cases c6 : x10_1 < (l0_1.length : Int)
     ·rw [if_pos c6] at H; have c6b0 : decide (x10_1 < (l0_1.length : Int)) = true := decide_eq_true c6; clear c6; replace H := Option.bind_eq_some_iff.mp H; obtain ⟨t139, A70, H⟩ := H; (try dsimp only at H); have A7 := aM A70; clear A70
      by_cases c8 : t139 = 0
      ·rw [if_pos c8] at H; have c8b0 : (t139 == 0) = true := beq_iff_eq.mpr c8; have c8b1 : (t139 != 0) = false := bne_eq_false_iff_eq.mpr c8; clear c8
       by_cases c9 : (((rd_T45 l0_1 x10_1).f1).length : Int) < 2
       ·rw [if_pos c9] at H; have c9b0 : decide ((((rd_T45 l0_1 x10_1).f1).length : Int) < 2) = true := decide_eq_true c9; have c9b1 : decide (((rd_T45 l0_1 x10_1).f1).length < 2) = true := decide_eq_true (by omega); clear c9
        by_cases c10 : 12 = 0
        ·exact absurd c10 (by decide)
        ·rw [if_neg c10] at H; have c10b0 : (12 == 0) = false := beq_eq_false_iff_ne.mpr c10; have c10b1 : (12 != 0) = true := bne_iff_ne.mpr c10; obtain rfl := Option.some.inj H; have p137 : 0 ≤ (x10_1 : Int) := oT; have q137 : x10_1 < (l0_1.length : Int) := oT; obtain ⟨ad137, A137_1, c137_1, A137_2, c137_2, e137, hx137_0, hx137_1, hx137_2, hl137_1, hi137_1, hl137_2, hi137_2⟩ := at_T45 HR0_1.out x10_1 p137 q137; cases e137
         replace hx137_0 := hs HB.out hx137_0; replace hx137_1 := hs HB.out hx137_1; replace hx137_2 := hs HB.out hx137_2; have HR137_1 := aM hi137_1; have HC137_1 := aM hl137_1; clear hi137_1 hl137_1; have HR137_2 := aM hi137_2; have HC137_2 := aM hl137_2; clear hi137_2 hl137_2; replace p137 := eq_true p137; replace q137 := eq_true q137
         go_wp2_with (first | ((with_reducible refine gate_dst (N := 4) rfl ?_); refine bx (N := 4) (cs := #[.int .i64 0, .slice none 0 0, .slice none 0 0]) (t := 45) ?_; intro gb138 hg w17 hbox hb; have BK138 := aM (hbox); have GE138 := aM (gw (w := w) hg); obtain ⟨NB136_138, NB138_136⟩ := n2 BK136 hg; replace BK136 := aM (kB (kl BK136) hb); replace HB := aM (bS (bl) hb); clear hb hbox hg; have hn18 := nn NB138_136; have hz19 := bc3 BK138; have hcz20_0 : w17.cell? ⟨gb136, 0, none⟩ = some (.slice A0_0 l0_0.length c0_0) := (kC BK136.out 0).trans rfl; have hcz20_1 : w17.cell? ⟨gb136, 1, none⟩ = some (.slice (some ad137) l0_1.length c0_1) := (kC BK136.out 1).trans rfl; have hcz20_2 : w17.cell? ⟨gb136, 2, none⟩ = some (.slice A0_2 l0_2.length c0_2) := (kC BK136.out 2).trans rfl; have hfz20_0 := kF BK136.out 0; have hfz20_1 := kF BK136.out 1; have hfz20_2 := kF BK136.out 2) | ((with_reducible refine gate_callee (f := 36) rfl ?_); refine gL (some 17) Try.func36 #[.int .i64 x10_1, .func (.func 39) #[] #[.pointer (some ⟨gb136, 0, none⟩)]] ?_; (with_reducible refine (data_ids_by_data_checker_checkWays_1.callsB gb136 M1 M2 x10_1 A0_0 c0_0 l0_0 (some ad137) c0_1 l0_1 A0_2 c0_2 l0_2 t139 _ ?side1 ?side2 ?side3 ?side4 ?side5 ?side6 ?sideB A7.out).mono ?_); (case sideB => exact (bk BK136)); (case side1 => exact Kd.C_below HR0_0.out (bl)); (case side2 => exact HC0_0.out); (case side3 => exact Kd.C_below HR0_1.out (bl)); (case side4 => exact HC0_1.out); (case side5 => exact Kd.C_below HR0_2.out (bl)); (case side6 => exact HC0_2.out); rintro e w21 ⟨rfl, hb⟩; refine ⟨_, rfl, ?_⟩; replace BK136 := aM (kB (g := gb136) (o := .cells #[.slice A0_0 l0_0.length c0_0, .slice (some ad137) l0_1.length c0_1, .slice A0_2 l0_2.length c0_2, .map (some M1), .map (some M2)] 74 (0, 0)) (bk BK136) hb); replace BK138 := aM (kB (g := gb138) (o := .cells #[.int .i64 ((rd_T45 l0_1 x10_1).f0), .slice A137_1 ((rd_T45 l0_1 x10_1).f1).length c137_1, .slice A137_2 ((rd_T45 l0_1 x10_1).f2).length c137_2] 45 (0, 0)) (bk BK138) hb); replace HB := aM (bS (bl) hb); (try clear hb); have hz22 := bc3 BK138))
         go_ret; exact ⟨by first | rfl | (simp [errW_none, errW_some] <;> rfl) | (simp [*, errW_none, errW_some] <;> rfl), bl⟩
       ·rw [if_neg c9] at H; have c9b0 : decide ((((rd_T45 l0_1 x10_1).f1).length : Int) < 2) = false := decide_eq_false c9; have c9b1 : decide (((rd_T45 l0_1 x10_1).f1).length < 2) = false := decide_eq_false (by omega); clear c9
        by_cases c23 : (((rd_T45 l0_1 x10_1).f1).length : Int) > 2000
        ·rw [if_pos c23] at H; have c23b0 : decide (2000 < (((rd_T45 l0_1 x10_1).f1).length : Int)) = true := decide_eq_true c23; have c23b1 : decide (2000 < ((rd_T45 l0_1 x10_1).f1).length) = true := decide_eq_true (by omega); clear c23
         by_cases c24 : 5 = 0
         ·exact absurd c24 (by decide)
         ·rw [if_neg c24] at H; have c24b0 : (5 == 0) = false := beq_eq_false_iff_ne.mpr c24; have c24b1 : (5 != 0) = true := bne_iff_ne.mpr c24; obtain rfl := Option.some.inj H; have p137 : 0 ≤ (x10_1 : Int) := oT; have q137 : x10_1 < (l0_1.length : Int) := oT; obtain ⟨ad137, A137_1, c137_1, A137_2, c137_2, e137, hx137_0, hx137_1, hx137_2, hl137_1, hi137_1, hl137_2, hi137_2⟩ := at_T45 HR0_1.out x10_1 p137 q137; cases e137
          replace hx137_0 := hs HB.out hx137_0; replace hx137_1 := hs HB.out hx137_1; replace hx137_2 := hs HB.out hx137_2; have HR137_1 := aM hi137_1; have HC137_1 := aM hl137_1; clear hi137_1 hl137_1; have HR137_2 := aM hi137_2; have HC137_2 := aM hl137_2; clear hi137_2 hl137_2; replace p137 := eq_true p137; replace q137 := eq_true q137
          go_wp2_with (first | ((with_reducible refine gate_dst (N := 4) rfl ?_); refine bx (N := 4) (cs := #[.int .i64 0, .slice none 0 0, .slice none 0 0]) (t := 45) ?_; intro gb138 hg w31 hbox hb; have BK138 := aM (hbox); have GE138 := aM (gw (w := w) hg); obtain ⟨NB136_138, NB138_136⟩ := n2 BK136 hg; replace BK136 := aM (kB (kl BK136) hb); replace HB := aM (bS (bl) hb); clear hb hbox hg; have hn32 := nn NB138_136; have hz33 := bc3 BK138; have hcz34_0 : w31.cell? ⟨gb136, 0, none⟩ = some (.slice A0_0 l0_0.length c0_0) := (kC BK136.out 0).trans rfl; have hcz34_1 : w31.cell? ⟨gb136, 1, none⟩ = some (.slice (some ad137) l0_1.length c0_1) := (kC BK136.out 1).trans rfl; have hcz34_2 : w31.cell? ⟨gb136, 2, none⟩ = some (.slice A0_2 l0_2.length c0_2) := (kC BK136.out 2).trans rfl; have hfz34_0 := kF BK136.out 0; have hfz34_1 := kF BK136.out 1; have hfz34_2 := kF BK136.out 2) | ((with_reducible refine gate_callee (f := 36) rfl ?_); refine gL (some 17) Try.func36 #[.int .i64 x10_1, .func (.func 39) #[] #[.pointer (some ⟨gb136, 0, none⟩)]] ?_; (with_reducible refine (data_ids_by_data_checker_checkWays_1.callsB gb136 M1 M2 x10_1 A0_0 c0_0 l0_0 (some ad137) c0_1 l0_1 A0_2 c0_2 l0_2 t139 _ ?side1 ?side2 ?side3 ?side4 ?side5 ?side6 ?sideB A7.out).mono ?_); (case sideB => exact (bk BK136)); (case side1 => exact Kd.C_below HR0_0.out (bl)); (case side2 => exact HC0_0.out); (case side3 => exact Kd.C_below HR0_1.out (bl)); (case side4 => exact HC0_1.out); (case side5 => exact Kd.C_below HR0_2.out (bl)); (case side6 => exact HC0_2.out); rintro e w35 ⟨rfl, hb⟩; refine ⟨_, rfl, ?_⟩; replace BK136 := aM (kB (g := gb136) (o := .cells #[.slice A0_0 l0_0.length c0_0, .slice (some ad137) l0_1.length c0_1, .slice A0_2 l0_2.length c0_2, .map (some M1), .map (some M2)] 74 (0, 0)) (bk BK136) hb); replace BK138 := aM (kB (g := gb138) (o := .cells #[.int .i64 ((rd_T45 l0_1 x10_1).f0), .slice A137_1 ((rd_T45 l0_1 x10_1).f1).length c137_1, .slice A137_2 ((rd_T45 l0_1 x10_1).f2).length c137_2] 45 (0, 0)) (bk BK138) hb); replace HB := aM (bS (bl) hb); (try clear hb); have hz36 := bc3 BK138))
          go_ret; exact ⟨by first | rfl | (simp [errW_none, errW_some] <;> rfl) | (simp [*, errW_none, errW_some] <;> rfl), bl⟩
        ·rw [if_neg c23] at H; have c23b0 : decide (2000 < (((rd_T45 l0_1 x10_1).f1).length : Int)) = false := decide_eq_false c23; have c23b1 : decide (2000 < ((rd_T45 l0_1 x10_1).f1).length) = false := decide_eq_false (by omega); clear c23; replace H := Option.bind_eq_some_iff.mp H; obtain ⟨t140, A370, H⟩ := H; (try dsimp only at H); have A37 := aM A370; clear A370
         by_cases c38 : t140 = true
         ·subst c38; have H1 : (if 9 = 0 then (data_checker_checkWays.l0 k1 l0_1 (l0_1.length : Int) (wrap64 (x10_1 + 1)) l0_0 l0_1 l0_2) else (some 9)) = some r := by rw [if_pos rfl] at H; exact H
          clear H; have H := H1; clear H1
          by_cases c39 : 9 = 0
          ·exact absurd c39 (by decide)
          ·rw [if_neg c39] at H; have c39b0 : (9 == 0) = false := beq_eq_false_iff_ne.mpr c39; have c39b1 : (9 != 0) = true := bne_iff_ne.mpr c39; obtain rfl := Option.some.inj H; have p137 : 0 ≤ (x10_1 : Int) := oT; have q137 : x10_1 < (l0_1.length : Int) := oT; obtain ⟨ad137, A137_1, c137_1, A137_2, c137_2, e137, hx137_0, hx137_1, hx137_2, hl137_1, hi137_1, hl137_2, hi137_2⟩ := at_T45 HR0_1.out x10_1 p137 q137; cases e137
           replace hx137_0 := hs HB.out hx137_0; replace hx137_1 := hs HB.out hx137_1; replace hx137_2 := hs HB.out hx137_2; have HR137_1 := aM hi137_1; have HC137_1 := aM hl137_1; clear hi137_1 hl137_1; have HR137_2 := aM hi137_2; have HC137_2 := aM hl137_2; clear hi137_2 hl137_2; replace p137 := eq_true p137; replace q137 := eq_true q137
           go_wp2_with (first | ((with_reducible refine gate_dst (N := 4) rfl ?_); refine bx (N := 4) (cs := #[.int .i64 0, .slice none 0 0, .slice none 0 0]) (t := 45) ?_; intro gb138 hg w48 hbox hb; have BK138 := aM (hbox); have GE138 := aM (gw (w := w) hg); obtain ⟨NB136_138, NB138_136⟩ := n2 BK136 hg; replace BK136 := aM (kB (kl BK136) hb); replace HB := aM (bS (bl) hb); clear hb hbox hg; have hn49 := nn NB138_136; have hz50 := bc3 BK138; have hcz51_0 : w48.cell? ⟨gb136, 0, none⟩ = some (.slice A0_0 l0_0.length c0_0) := (kC BK136.out 0).trans rfl; have hcz51_1 : w48.cell? ⟨gb136, 1, none⟩ = some (.slice (some ad137) l0_1.length c0_1) := (kC BK136.out 1).trans rfl; have hcz51_2 : w48.cell? ⟨gb136, 2, none⟩ = some (.slice A0_2 l0_2.length c0_2) := (kC BK136.out 2).trans rfl; have hfz51_0 := kF BK136.out 0; have hfz51_1 := kF BK136.out 1; have hfz51_2 := kF BK136.out 2) | ((with_reducible refine gate_callee (f := 36) rfl ?_); refine gL (some 17) Try.func36 #[.int .i64 x10_1, .func (.func 39) #[] #[.pointer (some ⟨gb136, 0, none⟩)]] ?_; (with_reducible refine (data_ids_by_data_checker_checkWays_1.callsB gb136 M1 M2 x10_1 A0_0 c0_0 l0_0 (some ad137) c0_1 l0_1 A0_2 c0_2 l0_2 t139 _ ?side1 ?side2 ?side3 ?side4 ?side5 ?side6 ?sideB A7.out).mono ?_); (case sideB => exact (bk BK136)); (case side1 => exact Kd.C_below HR0_0.out (bl)); (case side2 => exact HC0_0.out); (case side3 => exact Kd.C_below HR0_1.out (bl)); (case side4 => exact HC0_1.out); (case side5 => exact Kd.C_below HR0_2.out (bl)); (case side6 => exact HC0_2.out); rintro e w52 ⟨rfl, hb⟩; refine ⟨_, rfl, ?_⟩; replace BK136 := aM (kB (g := gb136) (o := .cells #[.slice A0_0 l0_0.length c0_0, .slice (some ad137) l0_1.length c0_1, .slice A0_2 l0_2.length c0_2, .map (some M1), .map (some M2)] 74 (0, 0)) (bk BK136) hb); replace BK138 := aM (kB (g := gb138) (o := .cells #[.int .i64 ((rd_T45 l0_1 x10_1).f0), .slice A137_1 ((rd_T45 l0_1 x10_1).f1).length c137_1, .slice A137_2 ((rd_T45 l0_1 x10_1).f2).length c137_2] 45 (0, 0)) (bk BK138) hb); replace HB := aM (bS (bl) hb); (try clear hb); have hz53 := bc3 BK138; have hcz54_0 : w52.cell? ⟨gb136, 0, none⟩ = some (.slice A0_0 l0_0.length c0_0) := (kC BK136.out 0).trans rfl; have hcz54_1 : w52.cell? ⟨gb136, 1, none⟩ = some (.slice (some ad137) l0_1.length c0_1) := (kC BK136.out 1).trans rfl; have hcz54_2 : w52.cell? ⟨gb136, 2, none⟩ = some (.slice A0_2 l0_2.length c0_2) := (kC BK136.out 2).trans rfl; have hfz54_0 := kF BK136.out 0; have hfz54_1 := kF BK136.out 1; have hfz54_2 := kF BK136.out 2) | ((with_reducible refine gate_callee (f := 40) rfl ?_); refine gL (some 38) Try.func40 #[.slice A137_1 ((rd_T45 l0_1 x10_1).f1).length c137_1, .func (.func 41) #[] #[.pointer (some ⟨gb136, 0, none⟩)]] ?_; (with_reducible refine (slices_ContainsFunc_int_int_by_data_checker_checkWays_2.callsB gb136 M1 M2 _ _ ((rd_T45 l0_1 x10_1).f1) A0_0 c0_0 l0_0 (some ad137) c0_1 l0_1 A0_2 c0_2 l0_2 true _ ?side1 ?side2 ?side3 ?side4 ?side5 ?side6 ?side7 ?side8 ?sideB ?sideM1 A37.out).mono ?_); (case sideB => exact (kl BK136)); (case sideM1 => exact HM1.out.below (bl)); (case side1 => exact cl HR137_1); (case side2 => exact HC137_1.out); (case side3 => exact cl HR0_0); (case side4 => exact HC0_0.out); (case side5 => exact cl HR0_1); (case side6 => exact HC0_1.out); (case side7 => exact cl HR0_2); (case side8 => exact HC0_2.out); rintro e w55 ⟨rfl, hb⟩; refine ⟨_, rfl, ?_⟩; replace BK136 := aM (kB (kl BK136) hb); replace BK138 := aM (kB (kl BK138) hb); replace HB := aM (bS (bl) hb); (try clear hb)))
           go_ret; exact ⟨by first | rfl | (simp [errW_none, errW_some] <;> rfl) | (simp [*, errW_none, errW_some] <;> rfl), bl⟩
         ·replace c38 := Bool.eq_false_iff.mpr c38; subst c38; have H1 : ((tags_Check.f k1 ((rd_T45 l0_1 x10_1).f2)).bind fun t141 => (if t141 = 0 then (data_checker_checkWays.l0 k1 l0_1 (l0_1.length : Int) (wrap64 (x10_1 + 1)) l0_0 l0_1 l0_2) else (some t141))) = some r := by rw [if_neg (show ¬ (false = true) by decide)] at H; exact H
          clear H; have H := H1; clear H1; replace H := Option.bind_eq_some_iff.mp H; obtain ⟨t141, A560, H⟩ := H; (try dsimp only at H); have A56 := aM A560; clear A560
          by_cases c57 : t141 = 0
          ·rw [if_pos c57] at H; have c57b0 : (t141 == 0) = true := beq_iff_eq.mpr c57; have c57b1 : (t141 != 0) = false := bne_eq_false_iff_eq.mpr c57; clear c57; have H' := aM H; clear H; have p137 : 0 ≤ (x10_1 : Int) := oT; have q137 : x10_1 < (l0_1.length : Int) := oT; obtain ⟨ad137, A137_1, c137_1, A137_2, c137_2, e137, hx137_0, hx137_1, hx137_2, hl137_1, hi137_1, hl137_2, hi137_2⟩ := at_T45 HR0_1.out x10_1 p137 q137; cases e137
           replace hx137_0 := hs HB.out hx137_0; replace hx137_1 := hs HB.out hx137_1; replace hx137_2 := hs HB.out hx137_2; have HR137_1 := aM hi137_1; have HC137_1 := aM hl137_1; clear hi137_1 hl137_1; have HR137_2 := aM hi137_2; have HC137_2 := aM hl137_2; clear hi137_2 hl137_2; replace p137 := eq_true p137; replace q137 := eq_true q137
           go_wp2_with (first | ((with_reducible refine gate_dst (N := 4) rfl ?_); refine bx (N := 4) (cs := #[.int .i64 0, .slice none 0 0, .slice none 0 0]) (t := 45) ?_; intro gb138 hg w58 hbox hb; have BK138 := aM (hbox); have GE138 := aM (gw (w := w) hg); obtain ⟨NB136_138, NB138_136⟩ := n2 BK136 hg; replace BK136 := aM (kB (kl BK136) hb); replace HB := aM (bS (bl) hb); clear hb hbox hg; have hn59 := nn NB138_136; have hz60 := bc3 BK138; have hcz61_0 : w58.cell? ⟨gb136, 0, none⟩ = some (.slice A0_0 l0_0.length c0_0) := (kC BK136.out 0).trans rfl; have hcz61_1 : w58.cell? ⟨gb136, 1, none⟩ = some (.slice (some ad137) l0_1.length c0_1) := (kC BK136.out 1).trans rfl; have hcz61_2 : w58.cell? ⟨gb136, 2, none⟩ = some (.slice A0_2 l0_2.length c0_2) := (kC BK136.out 2).trans rfl; have hfz61_0 := kF BK136.out 0; have hfz61_1 := kF BK136.out 1; have hfz61_2 := kF BK136.out 2) | ((with_reducible refine gate_callee (f := 36) rfl ?_); refine gL (some 17) Try.func36 #[.int .i64 x10_1, .func (.func 39) #[] #[.pointer (some ⟨gb136, 0, none⟩)]] ?_; (with_reducible refine (data_ids_by_data_checker_checkWays_1.callsB gb136 M1 M2 x10_1 A0_0 c0_0 l0_0 (some ad137) c0_1 l0_1 A0_2 c0_2 l0_2 t139 _ ?side1 ?side2 ?side3 ?side4 ?side5 ?side6 ?sideB A7.out).mono ?_); (case sideB => exact (bk BK136)); (case side1 => exact Kd.C_below HR0_0.out (bl)); (case side2 => exact HC0_0.out); (case side3 => exact Kd.C_below HR0_1.out (bl)); (case side4 => exact HC0_1.out); (case side5 => exact Kd.C_below HR0_2.out (bl)); (case side6 => exact HC0_2.out); rintro e w62 ⟨rfl, hb⟩; refine ⟨_, rfl, ?_⟩; replace BK136 := aM (kB (g := gb136) (o := .cells #[.slice A0_0 l0_0.length c0_0, .slice (some ad137) l0_1.length c0_1, .slice A0_2 l0_2.length c0_2, .map (some M1), .map (some M2)] 74 (0, 0)) (bk BK136) hb); replace BK138 := aM (kB (g := gb138) (o := .cells #[.int .i64 ((rd_T45 l0_1 x10_1).f0), .slice A137_1 ((rd_T45 l0_1 x10_1).f1).length c137_1, .slice A137_2 ((rd_T45 l0_1 x10_1).f2).length c137_2] 45 (0, 0)) (bk BK138) hb); replace HB := aM (bS (bl) hb); (try clear hb); have hz63 := bc3 BK138; have hcz64_0 : w62.cell? ⟨gb136, 0, none⟩ = some (.slice A0_0 l0_0.length c0_0) := (kC BK136.out 0).trans rfl; have hcz64_1 : w62.cell? ⟨gb136, 1, none⟩ = some (.slice (some ad137) l0_1.length c0_1) := (kC BK136.out 1).trans rfl; have hcz64_2 : w62.cell? ⟨gb136, 2, none⟩ = some (.slice A0_2 l0_2.length c0_2) := (kC BK136.out 2).trans rfl; have hfz64_0 := kF BK136.out 0; have hfz64_1 := kF BK136.out 1; have hfz64_2 := kF BK136.out 2) | ((with_reducible refine gate_callee (f := 40) rfl ?_); refine gL (some 38) Try.func40 #[.slice A137_1 ((rd_T45 l0_1 x10_1).f1).length c137_1, .func (.func 41) #[] #[.pointer (some ⟨gb136, 0, none⟩)]] ?_; (with_reducible refine (slices_ContainsFunc_int_int_by_data_checker_checkWays_2.callsB gb136 M1 M2 _ _ ((rd_T45 l0_1 x10_1).f1) A0_0 c0_0 l0_0 (some ad137) c0_1 l0_1 A0_2 c0_2 l0_2 false _ ?side1 ?side2 ?side3 ?side4 ?side5 ?side6 ?side7 ?side8 ?sideB ?sideM1 A37.out).mono ?_); (case sideB => exact (kl BK136)); (case sideM1 => exact HM1.out.below (bl)); (case side1 => exact cl HR137_1); (case side2 => exact HC137_1.out); (case side3 => exact cl HR0_0); (case side4 => exact HC0_0.out); (case side5 => exact cl HR0_1); (case side6 => exact HC0_1.out); (case side7 => exact cl HR0_2); (case side8 => exact HC0_2.out); rintro e w65 ⟨rfl, hb⟩; refine ⟨_, rfl, ?_⟩; replace BK136 := aM (kB (kl BK136) hb); replace BK138 := aM (kB (kl BK138) hb); replace HB := aM (bS (bl) hb); (try clear hb); have hz66 := bc3 BK138) | ((with_reducible refine gate_callee (f := 38) rfl ?_); refine gL (some 20) Try.func38 #[.slice A137_2 ((rd_T45 l0_1 x10_1).f2).length c137_2] ?_; (with_reducible refine (tags_Check.calls k1 _ _ ((rd_T45 l0_1 x10_1).f2) t141 _ ?side1 ?side2 A56.out).mono ?_); (case side1 => exact cl HR137_2); (case side2 => exact HC137_2.out); rintro e w67 ⟨rfl, hb⟩; refine ⟨_, rfl, ?_⟩; replace BK136 := aM (kB (kl BK136) hb); replace BK138 := aM (kB (kl BK138) hb); replace HB := aM (bS (bl) hb); (try clear hb)))
           go_roundg k1
           case measure => have := HK1.out; omega
           case rel => exact ⟨(wrap64 (x10_1 + 1)), (by first | rfl | (simp; done) | (simp [*]; done)), H', ⟨by have := HK1.out; omega⟩, ⟨kl BK136⟩, ⟨bl⟩⟩
          ·rw [if_neg c57] at H; have c57b0 : (t141 == 0) = false := beq_eq_false_iff_ne.mpr c57; have c57b1 : (t141 != 0) = true := bne_iff_ne.mpr c57; obtain rfl := Option.some.inj H; have p137 : 0 ≤ (x10_1 : Int) := oT; have q137 : x10_1 < (l0_1.length : Int) := oT; obtain ⟨ad137, A137_1, c137_1, A137_2, c137_2, e137, hx137_0, hx137_1, hx137_2, hl137_1, hi137_1, hl137_2, hi137_2⟩ := at_T45 HR0_1.out x10_1 p137 q137; cases e137
           replace hx137_0 := hs HB.out hx137_0; replace hx137_1 := hs HB.out hx137_1; replace hx137_2 := hs HB.out hx137_2; have HR137_1 := aM hi137_1; have HC137_1 := aM hl137_1; clear hi137_1 hl137_1; have HR137_2 := aM hi137_2; have HC137_2 := aM hl137_2; clear hi137_2 hl137_2; replace p137 := eq_true p137; replace q137 := eq_true q137
           go_wp2_with (first | ((with_reducible refine gate_dst (N := 4) rfl ?_); refine bx (N := 4) (cs := #[.int .i64 0, .slice none 0 0, .slice none 0 0]) (t := 45) ?_; intro gb138 hg w68 hbox hb; have BK138 := aM (hbox); have GE138 := aM (gw (w := w) hg); obtain ⟨NB136_138, NB138_136⟩ := n2 BK136 hg; replace BK136 := aM (kB (kl BK136) hb); replace HB := aM (bS (bl) hb); clear hb hbox hg; have hn69 := nn NB138_136; have hz70 := bc3 BK138; have hcz71_0 : w68.cell? ⟨gb136, 0, none⟩ = some (.slice A0_0 l0_0.length c0_0) := (kC BK136.out 0).trans rfl; have hcz71_1 : w68.cell? ⟨gb136, 1, none⟩ = some (.slice (some ad137) l0_1.length c0_1) := (kC BK136.out 1).trans rfl; have hcz71_2 : w68.cell? ⟨gb136, 2, none⟩ = some (.slice A0_2 l0_2.length c0_2) := (kC BK136.out 2).trans rfl; have hfz71_0 := kF BK136.out 0; have hfz71_1 := kF BK136.out 1; have hfz71_2 := kF BK136.out 2) | ((with_reducible refine gate_callee (f := 36) rfl ?_); refine gL (some 17) Try.func36 #[.int .i64 x10_1, .func (.func 39) #[] #[.pointer (some ⟨gb136, 0, none⟩)]] ?_; (with_reducible refine (data_ids_by_data_checker_checkWays_1.callsB gb136 M1 M2 x10_1 A0_0 c0_0 l0_0 (some ad137) c0_1 l0_1 A0_2 c0_2 l0_2 t139 _ ?side1 ?side2 ?side3 ?side4 ?side5 ?side6 ?sideB A7.out).mono ?_); (case sideB => exact (bk BK136)); (case side1 => exact Kd.C_below HR0_0.out (bl)); (case side2 => exact HC0_0.out); (case side3 => exact Kd.C_below HR0_1.out (bl)); (case side4 => exact HC0_1.out); (case side5 => exact Kd.C_below HR0_2.out (bl)); (case side6 => exact HC0_2.out); rintro e w72 ⟨rfl, hb⟩; refine ⟨_, rfl, ?_⟩; replace BK136 := aM (kB (g := gb136) (o := .cells #[.slice A0_0 l0_0.length c0_0, .slice (some ad137) l0_1.length c0_1, .slice A0_2 l0_2.length c0_2, .map (some M1), .map (some M2)] 74 (0, 0)) (bk BK136) hb); replace BK138 := aM (kB (g := gb138) (o := .cells #[.int .i64 ((rd_T45 l0_1 x10_1).f0), .slice A137_1 ((rd_T45 l0_1 x10_1).f1).length c137_1, .slice A137_2 ((rd_T45 l0_1 x10_1).f2).length c137_2] 45 (0, 0)) (bk BK138) hb); replace HB := aM (bS (bl) hb); (try clear hb); have hz73 := bc3 BK138; have hcz74_0 : w72.cell? ⟨gb136, 0, none⟩ = some (.slice A0_0 l0_0.length c0_0) := (kC BK136.out 0).trans rfl; have hcz74_1 : w72.cell? ⟨gb136, 1, none⟩ = some (.slice (some ad137) l0_1.length c0_1) := (kC BK136.out 1).trans rfl; have hcz74_2 : w72.cell? ⟨gb136, 2, none⟩ = some (.slice A0_2 l0_2.length c0_2) := (kC BK136.out 2).trans rfl; have hfz74_0 := kF BK136.out 0; have hfz74_1 := kF BK136.out 1; have hfz74_2 := kF BK136.out 2) | ((with_reducible refine gate_callee (f := 40) rfl ?_); refine gL (some 38) Try.func40 #[.slice A137_1 ((rd_T45 l0_1 x10_1).f1).length c137_1, .func (.func 41) #[] #[.pointer (some ⟨gb136, 0, none⟩)]] ?_; (with_reducible refine (slices_ContainsFunc_int_int_by_data_checker_checkWays_2.callsB gb136 M1 M2 _ _ ((rd_T45 l0_1 x10_1).f1) A0_0 c0_0 l0_0 (some ad137) c0_1 l0_1 A0_2 c0_2 l0_2 false _ ?side1 ?side2 ?side3 ?side4 ?side5 ?side6 ?side7 ?side8 ?sideB ?sideM1 A37.out).mono ?_); (case sideB => exact (kl BK136)); (case sideM1 => exact HM1.out.below (bl)); (case side1 => exact cl HR137_1); (case side2 => exact HC137_1.out); (case side3 => exact cl HR0_0); (case side4 => exact HC0_0.out); (case side5 => exact cl HR0_1); (case side6 => exact HC0_1.out); (case side7 => exact cl HR0_2); (case side8 => exact HC0_2.out); rintro e w75 ⟨rfl, hb⟩; refine ⟨_, rfl, ?_⟩; replace BK136 := aM (kB (kl BK136) hb); replace BK138 := aM (kB (kl BK138) hb); replace HB := aM (bS (bl) hb); (try clear hb); have hz76 := bc3 BK138) | ((with_reducible refine gate_callee (f := 38) rfl ?_); refine gL (some 20) Try.func38 #[.slice A137_2 ((rd_T45 l0_1 x10_1).f2).length c137_2] ?_; (with_reducible refine (tags_Check.calls k1 _ _ ((rd_T45 l0_1 x10_1).f2) t141 _ ?side1 ?side2 A56.out).mono ?_); (case side1 => exact cl HR137_2); (case side2 => exact HC137_2.out); rintro e w77 ⟨rfl, hb⟩; refine ⟨_, rfl, ?_⟩; replace BK136 := aM (kB (kl BK136) hb); replace BK138 := aM (kB (kl BK138) hb); replace HB := aM (bS (bl) hb); (try clear hb)))
           go_ret; exact ⟨by first | rfl | (simp [errW_none, errW_some] <;> rfl) | (simp [*, errW_none, errW_some] <;> rfl), bl⟩
      ·rw [if_neg c8] at H; have c8b0 : (t139 == 0) = false := beq_eq_false_iff_ne.mpr c8; have c8b1 : (t139 != 0) = true := bne_iff_ne.mpr c8; obtain rfl := Option.some.inj H; have p137 : 0 ≤ (x10_1 : Int) := oT; have q137 : x10_1 < (l0_1.length : Int) := oT; obtain ⟨ad137, A137_1, c137_1, A137_2, c137_2, e137, hx137_0, hx137_1, hx137_2, hl137_1, hi137_1, hl137_2, hi137_2⟩ := at_T45 HR0_1.out x10_1 p137 q137; cases e137
       replace hx137_0 := hs HB.out hx137_0; replace hx137_1 := hs HB.out hx137_1; replace hx137_2 := hs HB.out hx137_2; have HR137_1 := aM hi137_1; have HC137_1 := aM hl137_1; clear hi137_1 hl137_1; have HR137_2 := aM hi137_2; have HC137_2 := aM hl137_2; clear hi137_2 hl137_2; replace p137 := eq_true p137; replace q137 := eq_true q137
       go_wp2_with (first | ((with_reducible refine gate_dst (N := 4) rfl ?_); refine bx (N := 4) (cs := #[.int .i64 0, .slice none 0 0, .slice none 0 0]) (t := 45) ?_; intro gb138 hg w78 hbox hb; have BK138 := aM (hbox); have GE138 := aM (gw (w := w) hg); obtain ⟨NB136_138, NB138_136⟩ := n2 BK136 hg; replace BK136 := aM (kB (kl BK136) hb); replace HB := aM (bS (bl) hb); clear hb hbox hg; have hn79 := nn NB138_136; have hz80 := bc3 BK138; have hcz81_0 : w78.cell? ⟨gb136, 0, none⟩ = some (.slice A0_0 l0_0.length c0_0) := (kC BK136.out 0).trans rfl; have hcz81_1 : w78.cell? ⟨gb136, 1, none⟩ = some (.slice (some ad137) l0_1.length c0_1) := (kC BK136.out 1).trans rfl; have hcz81_2 : w78.cell? ⟨gb136, 2, none⟩ = some (.slice A0_2 l0_2.length c0_2) := (kC BK136.out 2).trans rfl; have hfz81_0 := kF BK136.out 0; have hfz81_1 := kF BK136.out 1; have hfz81_2 := kF BK136.out 2) | ((with_reducible refine gate_callee (f := 36) rfl ?_); refine gL (some 17) Try.func36 #[.int .i64 x10_1, .func (.func 39) #[] #[.pointer (some ⟨gb136, 0, none⟩)]] ?_; (with_reducible refine (data_ids_by_data_checker_checkWays_1.callsB gb136 M1 M2 x10_1 A0_0 c0_0 l0_0 (some ad137) c0_1 l0_1 A0_2 c0_2 l0_2 t139 _ ?side1 ?side2 ?side3 ?side4 ?side5 ?side6 ?sideB A7.out).mono ?_); (case sideB => exact (bk BK136)); (case side1 => exact Kd.C_below HR0_0.out (bl)); (case side2 => exact HC0_0.out); (case side3 => exact Kd.C_below HR0_1.out (bl)); (case side4 => exact HC0_1.out); (case side5 => exact Kd.C_below HR0_2.out (bl)); (case side6 => exact HC0_2.out); rintro e w82 ⟨rfl, hb⟩; refine ⟨_, rfl, ?_⟩; replace BK136 := aM (kB (g := gb136) (o := .cells #[.slice A0_0 l0_0.length c0_0, .slice (some ad137) l0_1.length c0_1, .slice A0_2 l0_2.length c0_2, .map (some M1), .map (some M2)] 74 (0, 0)) (bk BK136) hb); replace BK138 := aM (kB (g := gb138) (o := .cells #[.int .i64 ((rd_T45 l0_1 x10_1).f0), .slice A137_1 ((rd_T45 l0_1 x10_1).f1).length c137_1, .slice A137_2 ((rd_T45 l0_1 x10_1).f2).length c137_2] 45 (0, 0)) (bk BK138) hb); replace HB := aM (bS (bl) hb); (try clear hb)))
       go_ret; exact ⟨by first | rfl | (simp [errW_none, errW_some] <;> rfl) | (simp [*, errW_none, errW_some] <;> rfl), bl⟩
     ·rw [if_neg c6] at H; exact absurd H (by simp)
    ·rw [if_neg c5] at H; exact absurd H (by simp)
   ·rw [if_neg c4] at H; have c4b0 : decide (x10_1 < (l0_1.length : Int)) = false := decide_eq_false c4; clear c4; obtain rfl := Option.some.inj H
    go_wp2
    go_ret; exact ⟨by first | rfl | (simp [errW_none, errW_some] <;> rfl) | (simp [*, errW_none, errW_some] <;> rfl), bl⟩
-- NOT PRINTED: function 43 (api_Member)
set_option maxHeartbeats 4000000 in
set_option maxRecDepth 100000 in
theorem closure42 (A1_0 : Option Addr) (c1_0 : Nat) (l1_0 : List S42) (A1_1 : Option Addr) (c1_1 : Nat) (l1_1 : List S45) (A1_2 : Option Addr) (c1_2 : Nat) (l1_2 : List S48) (M1 M2 : Value) (B : Nat) (w : World)
  (hB : w.heap[B]? = some (.cells #[.slice A1_0 l1_0.length c1_0, .slice A1_1 l1_1.length c1_1, .slice A1_2 l1_2.length c1_2, M1, M2] 74 (0, 0))) (hr : Kd.C k48 w A1_2 l1_2.length l1_2) (j : Int) (h0 : 0 ≤ j) (h1 : j < (l1_2.length : Int)) :
  Calls Try.prog 42 (#[.int .i64 j] ++ #[.pointer (some ⟨B, 0, none⟩)]) w fun e w' => e = .returned (.int .i64 (rd_T48 l1_2 j).f0) ∧ w' = w := by
 have hu74 := Try.underlying74; have hu26 := Try.underlying26; have hu48 := Try.underlying48; have hb := hr.2.1; obtain ⟨ad, A1, c1, A2, c2, e0, hx0, hx1, hx2, hl1, hi1, hl2, hi2⟩ := at_T48 hr j h0 h1; cases e0
 have hc : w.cell? ⟨B, 2, none⟩ = some (.slice (some ad) l1_2.length c1_2) := (kC hB 2).trans rfl; have hf := kF hB 2; obtain ⟨n, rfl⟩ := Int.eq_ofNat_of_zero_le h0; rw [Int.toNat_natCast] at hx0 hx1 hx2; clear hB hr hl1 hi1 hl2 hi2; generalize (rd_T48 l1_2 (n : Int)) = x at hx0 hx1 hx2 ⊢
 show Calls Try.prog 42 #[.int .i64 (n : Int), .pointer (some ⟨B, 0, none⟩)] w _
 go_enter Try.func42, Try.ntmps42
 go_wp2
 go_ret; exact ⟨rfl, rfl⟩
def data_ids_by_data_checker_checkRels_1.f (a0 : Int) (l1_0 : List S42) (l1_1 : List S45) (l1_2 : List S48) : Option Int := if 0 ≤ a0 then (if a0 < (l1_2.length : Int) then some (idsF (fun j => (rd_T48 l1_2 j).f0) a0) else none) else none
theorem data_ids_by_data_checker_checkRels_1.callsB (B : Nat) (M1 M2 : Nat) (a0 : Int) (A1_0 : Option Addr) (c1_0 : Nat) (l1_0 : List S42) (A1_1 : Option Addr) (c1_1 : Nat) (l1_1 : List S45) (A1_2 : Option Addr) (c1_2 : Nat) (l1_2 : List S48) (r : Int) (w : World)
  (hr1_0 : Kd.C k42 w A1_0 l1_0.length l1_0) (hc1_0 : l1_0.length ≤ c1_0) (hr1_1 : Kd.C k45 w A1_1 l1_1.length l1_1) (hc1_1 : l1_1.length ≤ c1_1) (hr1_2 : Kd.C k48 w A1_2 l1_2.length l1_2) (hc1_2 : l1_2.length ≤ c1_2)
  (hB : w.heap[B]? = some (.cells #[.slice A1_0 l1_0.length c1_0, .slice A1_1 l1_1.length c1_1, .slice A1_2 l1_2.length c1_2, .map (some M1), .map (some M2)] 74 (0, 0))) (h : data_ids_by_data_checker_checkRels_1.f a0 l1_0 l1_1 l1_2 = some r) :
  Calls Try.prog 36 #[.int .i64 a0, .func (.func 42) #[] #[.pointer (some ⟨B, 0, none⟩)]] w fun e w' => e = .returned (.int .i64 r) ∧ Below w.heap.size w w' := by
 unfold data_ids_by_data_checker_checkRels_1.f at h
 split at h
 case isFalse => cases h
 split at h
 case isFalse => cases h
 rename_i h0 h1
 obtain rfl := Option.some.inj h; have eg : ∀ args w, (callFunc 42 args).run Try.prog w = .ok (.enter 42 args) w := enters_of Try.func42 (by kernel_rfl) rfl; have hb := hr1_2.2.1; refine (ids36 (fun j => (rd_T48 l1_2 j).f0) 42 #[.pointer (some ⟨B, 0, none⟩)] eg a0 w h0 (by omega) (fun j hj => closure42 A1_0 c1_0 l1_0 A1_1 c1_1 l1_1 A1_2 c1_2 l1_2 (.map (some M1)) (.map (some M2)) B w hB hr1_2 j (by omega) (by omega))).mono ?_; rintro e w' ⟨rfl, rfl⟩; exact ⟨rfl, Below.refl _ _⟩
set_option maxHeartbeats 4000000 in
set_option maxRecDepth 100000 in
theorem ix53 (p : S89 → Bool) (g : Nat) (lb : Array Value) (eg : ∀ args w, (callFunc g args).run Try.prog w = .ok (.enter g args) w) (A0 : Option Addr) (c0 : Nat) (l0 : List S89) (w : World) (hr0 : Kd.C k89 w A0 l0.length l0)
  (hp : ∀ (W : World) (x : S89), Below w.heap.size w W → Calls Try.prog g (#[.agg #[.int .i64 x.f0.f0, .int .i64 x.f0.f1, .string x.f1]] ++ lb) W fun e w' => e = .returned (.bool (p x)) ∧ Below w.heap.size w w') :
  Calls Try.prog 53 #[.slice A0 l0.length c0, .func (.func g) #[] lb] w fun e w' => e = .returned (.int .i64 (ixOf p l0)) ∧ Below w.heap.size w w' := by
 have hbig : l0.length ≤ 9223372036854775807 := hr0.2.1; have HR0 := aM hr0; clear hr0; have HP := aM hp; clear hp; go_enter Try.func53, Try.ntmps53
 go_wp2
 go_loopg [5, 8] l0.length (fun gg _ s8 wr => ∃ kk : Int, 0 ≤ kk ∧ kk ≤ (l0.length : Int) ∧ (l0.length : Int) - kk ≤ gg ∧ s8 = .int .i64 kk ∧ Aside0 (Below w.heap.size w wr) ∧ Aside0 (∀ j : Nat, (j : Int) < kk → p (l0.getD j z89) = false))
 case atStart => exact ⟨0, by omega, by omega, by omega, rfl, ⟨Below.refl _ w⟩, ⟨fun j hj => absurd hj (by omega)⟩⟩
 case round =>
  obtain ⟨kk, hk0, hkk, hg, rfl, BW, AA⟩ := hrel
  by_cases hlt : kk < (l0.length : Int)
  ·obtain ⟨ad, e0, hx0, hx1, hx2⟩ := at_T89 (Kd.C_below HR0.out BW.out) kk hk0 hlt; cases e0
   have hcall := HP.out wr (rd_T89 l0 kk) BW.out; have B := aM (show rd_T89 l0 kk = l0.getD kk.toNat z89 from rfl); generalize rd_T89 l0 kk = y at hcall hx0 hx1 hx2 B
   cases hq : p y with
   | true =>
    rw [hq] at hcall; have HQ := aM hq; clear hq
    go_wp2_with (go_at_fn g; refine hcall.mono ?_; rintro e w' ⟨rfl, hb'⟩)
    go_ret; refine ⟨?_, hb'⟩; rw [ixOf_hit p l0 z89 kk.toNat (by omega) (by rw [← B.out]; exact HQ.out) (fun j hj => AA.out j (by omega))]; rw [Int.toNat_of_nonneg hk0]; rfl
   | false =>
    rw [hq] at hcall; have HQ := aM hq; clear hq
    go_wp2_with (go_at_fn g; refine hcall.mono ?_; rintro e w' ⟨rfl, hb'⟩)
    go_roundg (l0.length - (kk.toNat + 1))
    case measure => omega
    case rel =>
     refine ⟨kk + 1, by omega, by omega, by omega, by go_num, ⟨hb'⟩, ⟨fun j hj => ?_⟩⟩
     by_cases e : (j : Int) = kk
     ·have : j = kk.toNat := by omega
      subst this; rw [← B.out]; exact HQ.out
     ·exact AA.out j (by omega)
  ·have : kk = (l0.length : Int) := by omega
   subst this
   go_wp2
   go_ret; refine ⟨?_, BW.out⟩; rw [ixOf_miss p l0 z89 (fun j hj => AA.out j (by omega))]; rfl
set_option maxHeartbeats 4000000 in
set_option maxRecDepth 100000 in
theorem closure44 (W : World) (x : S89) : Calls Try.prog 44 (#[.agg #[.int .i64 x.f0.f0, .int .i64 x.f0.f1, .string x.f1]] ++ #[]) W fun e w' => e = .returned (.bool (decide ((x.f1.size : Int) > 64))) ∧ Below W.heap.size W w' := by
 have hu89 := Try.underlying89; have HB := aM (Below.refl W.heap.size W)
 show Calls Try.prog 44 #[.agg #[.int .i64 x.f0.f0, .int .i64 x.f0.f1, .string x.f1]] W _
 go_enter Try.func44, Try.ntmps44
 go_wp2
 go_ret; exact ⟨rfl, by repeat (first | (with_reducible first | exact HB.out | apply bN | apply bD) | (refine (HB.out.alloc HB.out.size _)))⟩
def api_Member_by_data_checker_checkRels_2.f (l0 : List (S89)) : Option Bool := some (l0.any (fun x => decide ((x.f1.size : Int) > 64)))
theorem api_Member_by_data_checker_checkRels_2.calls (A0 : Option Addr) (c0 : Nat) (l0 : List (S89)) (r : Bool) (w : World) (hr0 : Kd.C k89 w A0 l0.length l0) (hc0 : l0.length ≤ c0) (h : api_Member_by_data_checker_checkRels_2.f l0 = some r) :
  Calls Try.prog 43 #[.slice A0 l0.length c0, .func (.func 44) #[] #[]] w fun e w' => e = .returned (.bool r) ∧ Below w.heap.size w w' := by
 obtain rfl := Option.some.inj h; have eg : ∀ args w, (callFunc 44 args).run Try.prog w = .ok (.enter 44 args) w := enters_of Try.func44 (by kernel_rfl) rfl; have HX := aM (ix53 (fun x => decide ((x.f1.size : Int) > 64)) 44 #[] eg A0 c0 l0 w hr0 (fun W x hb => (closure44 W x).mono (fun e w' h => ⟨h.1, hb.trans (h.2.mono hb.size)⟩))); have HA := aM (ixOf_any (fun x => decide ((x.f1.size : Int) > 64)) l0); clear hr0 eg h; generalize l0.any (fun x => decide ((x.f1.size : Int) > 64)) = r at HA ⊢; generalize ixOf (fun x => decide ((x.f1.size : Int) > 64)) l0 = n at HA HX; go_enter Try.func43, Try.ntmps43
 go_wp2_with (first | (go_at_call 53; refine HX.out.mono ?_; rintro e w1 ⟨rfl, hb1⟩) | go_in)
 go_ret; refine ⟨?_, hb1⟩; rw [← HA.out]; rfl
set_option maxHeartbeats 4000000 in
set_option maxRecDepth 100000 in
theorem ixb53 (p : S89 → Bool) (g : Nat) (bd : Value) (eg : ∀ args w, (callFunc g args).run Try.prog w = .ok (.enter g args) w) (A0 : Option Addr) (c0 : Nat) (l0 : List S89) (w : World) (hr0 : Kd.C k89 w A0 l0.length l0)
  (hp : ∀ (W : World) (x : S89), x ∈ l0 → Below w.heap.size w W → Calls Try.prog g #[bd, .agg #[.int .i64 x.f0.f0, .int .i64 x.f0.f1, .string x.f1]] W fun e w' => e = .returned (.bool (p x)) ∧ Below w.heap.size w w') :
  Calls Try.prog 53 #[.slice A0 l0.length c0, .func (.func g) #[bd] #[]] w fun e w' => e = .returned (.int .i64 (ixOf p l0)) ∧ Below w.heap.size w w' := by
 have hbig : l0.length ≤ 9223372036854775807 := hr0.2.1; have HR0 := aM hr0; clear hr0; have HP := aM hp; clear hp; go_enter Try.func53, Try.ntmps53
 go_wp2
 go_loopg [5, 8] l0.length (fun gg _ s8 wr => ∃ kk : Int, 0 ≤ kk ∧ kk ≤ (l0.length : Int) ∧ (l0.length : Int) - kk ≤ gg ∧ s8 = .int .i64 kk ∧ Aside0 (Below w.heap.size w wr) ∧ Aside0 (∀ j : Nat, (j : Int) < kk → p (l0.getD j z89) = false))
 case atStart => exact ⟨0, by omega, by omega, by omega, rfl, ⟨Below.refl _ w⟩, ⟨fun j hj => absurd hj (by omega)⟩⟩
 case round =>
  obtain ⟨kk, hk0, hkk, hg, rfl, BW, AA⟩ := hrel
  by_cases hlt : kk < (l0.length : Int)
  ·obtain ⟨ad, e0, hx0, hx1, hx2⟩ := at_T89 (Kd.C_below HR0.out BW.out) kk hk0 hlt; cases e0
   have hcall := HP.out wr (rd_T89 l0 kk) (by unfold rd_T89; rw [List.getD_eq_getElem?_getD, List.getElem?_eq_getElem (show kk.toNat < l0.length by omega)]; exact List.getElem_mem _) BW.out; have B := aM (show rd_T89 l0 kk = l0.getD kk.toNat z89 from rfl); generalize rd_T89 l0 kk = y at hcall hx0 hx1 hx2 B
   cases hq : p y with
   | true =>
    rw [hq] at hcall; have HQ := aM hq; clear hq
    go_wp2_with (go_at_fn g; refine hcall.mono ?_; rintro e w' ⟨rfl, hb'⟩)
    go_ret; refine ⟨?_, hb'⟩; rw [ixOf_hit p l0 z89 kk.toNat (by omega) (by rw [← B.out]; exact HQ.out) (fun j hj => AA.out j (by omega))]; rw [Int.toNat_of_nonneg hk0]; rfl
   | false =>
    rw [hq] at hcall; have HQ := aM hq; clear hq
    go_wp2_with (go_at_fn g; refine hcall.mono ?_; rintro e w' ⟨rfl, hb'⟩)
    go_roundg (l0.length - (kk.toNat + 1))
    case measure => omega
    case rel =>
     refine ⟨kk + 1, by omega, by omega, by omega, by go_num, ⟨hb'⟩, ⟨fun j hj => ?_⟩⟩
     by_cases e : (j : Int) = kk
     ·have : j = kk.toNat := by omega
      subst this; rw [← B.out]; exact HQ.out
     ·exact AA.out j (by omega)
  ·have : kk = (l0.length : Int) := by omega
   subst this
   go_wp2
   go_ret; refine ⟨?_, BW.out⟩; rw [ixOf_miss p l0 z89 (fun j hj => AA.out j (by omega))]; rfl
def missF (i0 i1 : List Int) (x : S89) : Bool := !(x.f0.f0 == 1 && i0.contains x.f0.f1 || x.f0.f0 == 2 && i1.contains x.f0.f1)
set_option maxHeartbeats 4000000 in
set_option maxRecDepth 100000 in
theorem closure45 (A1_0 : Option Addr) (c1_0 : Nat) (l1_0 : List S42) (A1_1 : Option Addr) (c1_1 : Nat) (l1_1 : List S45) (A1_2 : Option Addr) (c1_2 : Nat) (l1_2 : List S48) (M1 M2 : Nat) (i0 i1 : List Int) (w : World) (hm1 : HasIds w M1 i0) (hm2 : HasIds w M2 i1) (W : World) (x : S89) (hx : InI x.f0.f1) (hb : Below w.heap.size w W) :
  Calls Try.prog 45 #[.agg #[.slice A1_0 l1_0.length c1_0, .slice A1_1 l1_1.length c1_1, .slice A1_2 l1_2.length c1_2, .map (some M1), .map (some M2)], .agg #[.int .i64 x.f0.f0, .int .i64 x.f0.f1, .string x.f1]] W fun e w' => e = .returned (.bool (missF i0 i1 x)) ∧ Below w.heap.size w w' := by
 have hu89 := Try.underlying89; have hu74 := Try.underlying74; have hu36 := Try.underlying36; obtain ⟨⟨a, b⟩, s⟩ := x; have hbw : Below W.heap.size W ((W.alloc (.cells #[.slice A1_0 l1_0.length c1_0, .slice A1_1 l1_1.length c1_1, .slice A1_2 l1_2.length c1_2, .map (some M1), .map (some M2)] 74)).alloc (.cells #[.int .i64 a, .int .i64 b, .string s] 89)) := bA (bA (Below.refl _ _) _) _; have hl1 := ((hm1.below hb).below hbw).look hx; have hl2 := ((hm2.below hb).below hbw).look hx; have HB := aM (hb.trans (hbw.mono hb.size)); clear hbw hb hm1 hm2; unfold missF; dsimp only at hl1 hl2 ⊢; generalize i0.contains b = v1 at hl1 ⊢; generalize i1.contains b = v2 at hl2 ⊢; obtain ⟨r, hr⟩ : ∃ r, r = !(a == 1 && v1 || a == 2 && v2) := ⟨_, rfl⟩; rw [← hr]
 by_cases c1 : a = 1
 ·have e1 : (a == 1) = true := beq_iff_eq.mpr c1; have e2 : (a == 2) = false := beq_eq_false_iff_ne.mpr (by omega); rw [e1, e2] at hr; clear c1
  cases v1 <;> cases v2 <;> (obtain rfl : r = _ := hr) <;> (go_enter Try.func45, Try.ntmps45) <;> go_wp2 <;> go_ret <;> exact ⟨rfl, HB.out⟩
 ·have e1 : (a == 1) = false := beq_eq_false_iff_ne.mpr c1
  by_cases c2 : a = 2
  ·have e2 : (a == 2) = true := beq_iff_eq.mpr c2; rw [e1, e2] at hr; clear c1 c2
   cases v1 <;> cases v2 <;> (obtain rfl : r = _ := hr) <;> (go_enter Try.func45, Try.ntmps45) <;> go_wp2 <;> go_ret <;> exact ⟨rfl, HB.out⟩
  ·have e2 : (a == 2) = false := beq_eq_false_iff_ne.mpr c2; rw [e1, e2] at hr; clear c1 c2
   cases v1 <;> cases v2 <;> (obtain rfl : r = _ := hr) <;> (go_enter Try.func45, Try.ntmps45) <;> go_wp2 <;> go_ret <;> exact ⟨rfl, HB.out⟩
def api_Member_by_data_checker_missing.f (l0 : List S89) (l1_0 : List S42) (l1_1 : List S45) (l1_2 : List S48) : Option Bool := if ∀ m ∈ l0, InI m.f0.f1 then some (l0.any (missF (l1_0.map (fun x => x.f0)) (l1_1.map (fun x => x.f0)))) else none
set_option maxHeartbeats 4000000 in
set_option maxRecDepth 100000 in
theorem api_Member_by_data_checker_missing.callsB (B M1 M2 : Nat) (A0 : Option Addr) (c0 : Nat) (l0 : List S89) (A1_0 : Option Addr) (c1_0 : Nat) (l1_0 : List S42) (A1_1 : Option Addr) (c1_1 : Nat) (l1_1 : List S45) (A1_2 : Option Addr) (c1_2 : Nat) (l1_2 : List S48) (r : Bool) (w : World) (hr0 : Kd.C k89 w A0 l0.length l0) (hc0 : l0.length ≤ c0) (hr1_0 : Kd.C k42 w A1_0 l1_0.length l1_0) (hc1_0 : l1_0.length ≤ c1_0) (hr1_1 : Kd.C k45 w A1_1 l1_1.length l1_1) (hc1_1 : l1_1.length ≤ c1_1) (hr1_2 : Kd.C k48 w A1_2 l1_2.length l1_2) (hc1_2 : l1_2.length ≤ c1_2)
  (hB : w.heap[B]? = some (.cells #[.slice A1_0 l1_0.length c1_0, .slice A1_1 l1_1.length c1_1, .slice A1_2 l1_2.length c1_2, .map (some M1), .map (some M2)] 74 (0, 0))) (hm1 : HasIds w M1 (l1_0.map (fun x => x.f0))) (hm2 : HasIds w M2 (l1_1.map (fun x => x.f0))) (h : api_Member_by_data_checker_missing.f l0 l1_0 l1_1 l1_2 = some r) :
  Calls Try.prog 43 #[.slice A0 l0.length c0, .func (.func 45) #[.agg #[.slice A1_0 l1_0.length c1_0, .slice A1_1 l1_1.length c1_1, .slice A1_2 l1_2.length c1_2, .map (some M1), .map (some M2)]] #[]] w fun e w' => e = .returned (.bool r) ∧ Below w.heap.size w w' := by
 unfold api_Member_by_data_checker_missing.f at h
 split at h
 case isFalse => cases h
 rename_i hin
 obtain rfl := Option.some.inj h; clear h; have eg : ∀ args w, (callFunc 45 args).run Try.prog w = .ok (.enter 45 args) w := enters_of Try.func45 (by kernel_rfl) rfl; have HX := aM (ixb53 (missF (l1_0.map (fun x => x.f0)) (l1_1.map (fun x => x.f0))) 45 (.agg #[.slice A1_0 l1_0.length c1_0, .slice A1_1 l1_1.length c1_1, .slice A1_2 l1_2.length c1_2, .map (some M1), .map (some M2)]) eg A0 c0 l0 w hr0 (fun W x hx hb => closure45 A1_0 c1_0 l1_0 A1_1 c1_1 l1_1 A1_2 c1_2 l1_2 M1 M2 _ _ w hm1 hm2 W x (hin x hx) hb)); have HA := aM (ixOf_any (missF (l1_0.map (fun x => x.f0)) (l1_1.map (fun x => x.f0))) l0); clear hr0 hr1_0 hr1_1 hr1_2 eg hB hm1 hm2 hin; generalize l0.any (missF (l1_0.map (fun x => x.f0)) (l1_1.map (fun x => x.f0))) = r at HA ⊢; generalize ixOf (missF (l1_0.map (fun x => x.f0)) (l1_1.map (fun x => x.f0))) l0 = n at HA HX; go_enter Try.func43, Try.ntmps43
 go_wp2_with (first | (go_at_call 53; refine HX.out.mono ?_; rintro e w1 ⟨rfl, hb1⟩) | go_in)
 go_ret; refine ⟨?_, hb1⟩; rw [← HA.out]; rfl
end Go.Proofs.Ytijoaohckgbneaa.PAll
