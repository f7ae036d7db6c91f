-- out of a driver of this session's prover over the kit's print: Lean checks it
import Derived.Test.YtgenbepicnbecaaPAllx0
import Derived.Test.YtgenbepicnbecaaPAllx16
import Derived.Test.YtgenbepicnbecaaPAllx19
namespace Go.Proofs.Ytgenbepicnbecaa.PAll
open Go.Proofs.YtgenbepicnbecaaG Go.Shelf Go.Lib
open Go.RowKit Go.Proofs.YtgenbepicnbecaaW.PrintWords Go.Proofs.YtgenbepicnbecaaW.PrintLast Go.Proofs.YtgenbepicnbecaaW.PrintMore
attribute [local go_sem] max2_int min2_int max_two min_two max_three min_three max_four min_four   -- for this text's walks alone
set_option linter.unusedVariables false
set_option linter.unusedSimpArgs false
mutual
def mapmakerref14_rel.l0 : Nat → Int → List (S39) → List (S45) → List (S51) → Int → List (S67) → List (S70) → Option (Int)
 | 0, _, _, _, _, _, _, _ => none
 | k + 1, x5, x299000, x299001, x299002, x300000, x300001, x300002 => if x5 < (x300001.length : Int) then (if 0 ≤ x5 then (if (((rd_T67 x300001 x5).f1).size : Int) > 64 then (some 5) else (mapmakerref14_rel.l0 k (wrap64 (x5 + 1)) x299000 x299001 x299002 x300000 x300001 x300002)) else (none)) else (mapmakerref14_rel.l1 k 0 x299000 x299001 x299002 x300000 x300001 x300002)
def mapmakerref14_rel.l1 : Nat → Int → List (S39) → List (S45) → List (S51) → Int → List (S67) → List (S70) → Option (Int)
 | 0, _, _, _, _, _, _, _ => none
 | k + 1, x6, x299000, x299001, x299002, x300000, x300001, x300002 => if x6 < (x300001.length : Int) then (if 0 ≤ x6 then (if ((rd_T67 x300001 x6).f0.f0) = 1 then ((mapmakerref14_Has.f k x299000 x299001 x299002 ((rd_T67 x300001 x6).f0.f0) ((rd_T67 x300001 x6).f0.f1)).bind fun t303 => (if t303 = true then (mapmakerref14_rel.l1 k (wrap64 (x6 + 1)) x299000 x299001 x299002 x300000 x300001 x300002) else (some 9))) else (if ((rd_T67 x300001 x6).f0.f0) = 2 then ((mapmakerref14_Has.f k x299000 x299001 x299002 ((rd_T67 x300001 x6).f0.f0) ((rd_T67 x300001 x6).f0.f1)).bind fun t304 => (if t304 = true then (mapmakerref14_rel.l1 k (wrap64 (x6 + 1)) x299000 x299001 x299002 x300000 x300001 x300002) else (some 9))) else (some 9))) else (none)) else ((mapmakerref06_Check.f k x300002).bind fun t305 => (some t305))
end
def mapmakerref14_rel.f (k : Nat) (l0_0 : List (S39)) (l0_1 : List (S45)) (l0_2 : List (S51)) (a1_0 : Int) (l1_1 : List (S67)) (l1_2 : List (S70)) : Option (Int) := if (l1_1.length : Int) > 200 then (some 5) else (mapmakerref14_rel.l0 k 0 l0_0 l0_1 l0_2 a1_0 l1_1 l1_2)
theorem mapmakerref14_rel.mono_l : ∀ k, (∀ y0 y1 y2 y3 y4 y5 y6, LeO (mapmakerref14_rel.l0 k y0 y1 y2 y3 y4 y5 y6) (mapmakerref14_rel.l0 (k + 1) y0 y1 y2 y3 y4 y5 y6)) ∧ (∀ y0 y1 y2 y3 y4 y5 y6, LeO (mapmakerref14_rel.l1 k y0 y1 y2 y3 y4 y5 y6) (mapmakerref14_rel.l1 (k + 1) y0 y1 y2 y3 y4 y5 y6))
 | 0 => ⟨fun _ _ _ _ _ _ _ r h => by simp [mapmakerref14_rel.l0] at h, fun _ _ _ _ _ _ _ r h => by simp [mapmakerref14_rel.l1] at h⟩
 | k + 1 => by
  obtain ⟨ih0, ih1⟩ := mapmakerref14_rel.mono_l k
  refine ⟨?_, ?_⟩
  ·intro y0 y1 y2 y3 y4 y5 y6
   unfold mapmakerref14_rel.l0
   repeat' first
   | (with_reducible exact ih0 _ _ _ _ _ _ _)
   | (with_reducible exact ih1 _ _ _ _ _ _ _)
   | (with_reducible exact mapmakerref06_Check.mono _ _)
   | (with_reducible exact mapmakerref14_Has.mono _ _ _ _ _ _)
   | (with_reducible exact LeO.refl _)
   | (with_reducible exact LeO.none _)
   | (with_reducible refine LeO.ite ?_ ?_)
   | (with_reducible refine LeO.bind ?_ (fun _ => ?_))
   | exact ih0 _ _ _ _ _ _ _
   | exact ih1 _ _ _ _ _ _ _
   | exact mapmakerref06_Check.mono _ _
   | exact mapmakerref14_Has.mono _ _ _ _ _ _
   | exact LeO.none _
   | refine LeO.ite ?_ ?_
   | refine LeO.bind ?_ (fun _ => ?_)
  ·intro y0 y1 y2 y3 y4 y5 y6
   unfold mapmakerref14_rel.l1
   repeat' first
   | (with_reducible exact ih0 _ _ _ _ _ _ _)
   | (with_reducible exact ih1 _ _ _ _ _ _ _)
   | (with_reducible exact mapmakerref06_Check.mono _ _)
   | (with_reducible exact mapmakerref14_Has.mono _ _ _ _ _ _)
   | (with_reducible exact LeO.refl _)
   | (with_reducible exact LeO.none _)
   | (with_reducible refine LeO.ite ?_ ?_)
   | (with_reducible refine LeO.bind ?_ (fun _ => ?_))
   | exact ih0 _ _ _ _ _ _ _
   | exact ih1 _ _ _ _ _ _ _
   | exact mapmakerref06_Check.mono _ _
   | exact mapmakerref14_Has.mono _ _ _ _ _ _
   | exact LeO.none _
   | refine LeO.ite ?_ ?_
   | refine LeO.bind ?_ (fun _ => ?_)
theorem mapmakerref14_rel.mono : ∀ a0 a1 a2 a3 a4 a5 k, LeO (mapmakerref14_rel.f k a0 a1 a2 a3 a4 a5) (mapmakerref14_rel.f (k + 1) a0 a1 a2 a3 a4 a5) := by
 intro a0 a1 a2 a3 a4 a5 k
 obtain ⟨ih0, ih1⟩ := mapmakerref14_rel.mono_l k
 unfold mapmakerref14_rel.f
 repeat' first
   | (with_reducible exact ih0 _ _ _ _ _ _ _)
   | (with_reducible exact ih1 _ _ _ _ _ _ _)
   | (with_reducible exact mapmakerref06_Check.mono _ _)
   | (with_reducible exact mapmakerref14_Has.mono _ _ _ _ _ _)
   | (with_reducible exact LeO.refl _)
   | (with_reducible exact LeO.none _)
   | (with_reducible refine LeO.ite ?_ ?_)
   | (with_reducible refine LeO.bind ?_ (fun _ => ?_))
   | exact ih0 _ _ _ _ _ _ _
   | exact ih1 _ _ _ _ _ _ _
   | exact mapmakerref06_Check.mono _ _
   | exact mapmakerref14_Has.mono _ _ _ _ _ _
   | exact LeO.none _
   | refine LeO.ite ?_ ?_
   | refine LeO.bind ?_ (fun _ => ?_)
set_option maxHeartbeats 8000000 in
set_option maxRecDepth 100000 in
theorem mapmakerref14_rel.calls (k : Nat) (A0_0 : Option Addr) (c0_0 : Nat) (l0_0 : List (S39)) (A0_1 : Option Addr) (c0_1 : Nat) (l0_1 : List (S45)) (A0_2 : Option Addr) (c0_2 : Nat) (l0_2 : List (S51)) (a1_0 : Int) (A1_1 : Option Addr) (c1_1 : Nat) (l1_1 : List (S67)) (A1_2 : Option Addr) (c1_2 : Nat) (l1_2 : List (S70)) (r : Int) (w : World) (hr0_0 : Kd.C k39 w A0_0 l0_0.length l0_0) (hc0_0 : l0_0.length ≤ c0_0) (hr0_1 : Kd.C k45 w A0_1 l0_1.length l0_1) (hc0_1 : l0_1.length ≤ c0_1) (hr0_2 : Kd.C k51 w A0_2 l0_2.length l0_2) (hc0_2 : l0_2.length ≤ c0_2) (hr1_1 : Kd.C k67 w A1_1 l1_1.length l1_1) (hc1_1 : l1_1.length ≤ c1_1) (hr1_2 : Kd.C k70 w A1_2 l1_2.length l1_2) (hc1_2 : l1_2.length ≤ c1_2) (h : mapmakerref14_rel.f k l0_0 l0_1 l0_2 a1_0 l1_1 l1_2 = some r) :
  Calls Try.prog 43 #[.agg #[.slice A0_0 l0_0.length c0_0, .slice A0_1 l0_1.length c0_1, .slice A0_2 l0_2.length c0_2], .agg #[.int .i64 a1_0, .slice A1_1 l1_1.length c1_1, .slice A1_2 l1_2.length c1_2]] w fun e w' => e = .returned (.int .i64 r) ∧ Below w.heap.size w w' := by
 have hu26 := Try.underlying26
 have hu51 := Try.underlying51
 have hu34 := Try.underlying34
 have HR0_0 := aM hr0_0
 have HC0_0 := aM hc0_0
 clear hr0_0 hc0_0
 have HR0_1 := aM hr0_1
 have HC0_1 := aM hc0_1
 clear hr0_1 hc0_1
 have HR0_2 := aM hr0_2
 have HC0_2 := aM hc0_2
 clear hr0_2 hc0_2
 have HR1_1 := aM hr1_1
 have HC1_1 := aM hc1_1
 clear hr1_1 hc1_1
 have HR1_2 := aM hr1_2
 have HC1_2 := aM hc1_2
 clear hr1_2 hc1_2
 have HB := aM (Below.refl w.heap.size w)
 have H : (if (l1_1.length : Int) > 200 then (some 5) else (mapmakerref14_rel.l0 k 0 l0_0 l0_1 l0_2 a1_0 l1_1 l1_2)) = some r := h
 clear h
 by_cases c3 : (l1_1.length : Int) > 200
 ·rw [if_pos c3] at H
  have c3b0 : decide (200 < (l1_1.length : Int)) = true := decide_eq_true c3
  have c3b1 : decide (200 < l1_1.length) = true := decide_eq_true (by omega)
  clear c3
  obtain rfl := Option.some.inj H
  go_enter Try.func43, Try.ntmps43
  go_wp2_with (first | ((with_reducible refine gate_dst (N := 2) rfl ?_); refine bx (N := 2) (cs := #[.slice A0_0 l0_0.length c0_0, .slice A0_1 l0_1.length c0_1, .slice A0_2 l0_2.length c0_2]) (t := 26) ?_; intro gb298 hg w4 hbox hb; have n0_ := aM (bS (bl) hb); have n1_ := aM (hbox); have n3_ := aM (gw (w := w) hg); clear HB; have HB := n0_; have BK298 := n1_; have GE298 := n3_; clear n0_ n1_ n3_ hb hbox hg) | ((with_reducible refine gate_dst (N := 3) rfl ?_); refine bx (N := 3) (cs := #[.int .i64 a1_0, .slice A1_1 l1_1.length c1_1, .slice A1_2 l1_2.length c1_2]) (t := 51) ?_; intro gb299 hg w5 hbox hb; have n0_ := aM (kB (kl BK298) hb); have n1_ := aM (bS (bl) hb); have n2_ := aM (hbox); have n4_ := aM (gw (w := w) hg); have n5_ := aM (nb BK298 hg); have n6_ := aM (nb BK298 hg).symm; clear BK298 HB; have BK298 := n0_; have HB := n1_; have BK299 := n2_; have GE299 := n4_; have NB298_299 := n5_; have NB299_298 := n6_; clear n0_ n1_ n2_ n4_ n5_ n6_ hb hbox hg; have hnb6 := NB299_298.out; have hnc6 := NB298_299.out; have hcz7_0 : w5.cell? ⟨gb299, 0, none⟩ = some (.int .i64 a1_0) := (kC BK299.out 0).trans rfl; have hcz7_1 : w5.cell? ⟨gb299, 1, none⟩ = some (.slice A1_1 l1_1.length c1_1) := (kC BK299.out 1).trans rfl; have hcz7_2 : w5.cell? ⟨gb299, 2, none⟩ = some (.slice A1_2 l1_2.length c1_2) := (kC BK299.out 2).trans rfl; have hfz7_0 := kF BK299.out 0; have hfz7_1 := kF BK299.out 1; have hfz7_2 := kF BK299.out 2))
  go_ret
  exact ⟨by first | rfl | (simp [errW_none, errW_some] <;> rfl) | (simp [*, errW_none, errW_some] <;> rfl), bl⟩
 ·rw [if_neg c3] at H
  have c3b0 : decide (200 < (l1_1.length : Int)) = false := decide_eq_false c3
  have c3b1 : decide (200 < l1_1.length) = false := decide_eq_false (by omega)
  clear c3
  have H' := aM H
  clear H
  go_enter Try.func43, Try.ntmps43
  go_wp2_with (first | ((with_reducible refine gate_dst (N := 2) rfl ?_); refine bx (N := 2) (cs := #[.slice A0_0 l0_0.length c0_0, .slice A0_1 l0_1.length c0_1, .slice A0_2 l0_2.length c0_2]) (t := 26) ?_; intro gb298 hg w8 hbox hb; have n0_ := aM (bS (bl) hb); have n1_ := aM (hbox); have n3_ := aM (gw (w := w) hg); clear HB; have HB := n0_; have BK298 := n1_; have GE298 := n3_; clear n0_ n1_ n3_ hb hbox hg) | ((with_reducible refine gate_dst (N := 3) rfl ?_); refine bx (N := 3) (cs := #[.int .i64 a1_0, .slice A1_1 l1_1.length c1_1, .slice A1_2 l1_2.length c1_2]) (t := 51) ?_; intro gb299 hg w9 hbox hb; have n0_ := aM (kB (kl BK298) hb); have n1_ := aM (bS (bl) hb); have n2_ := aM (hbox); have n4_ := aM (gw (w := w) hg); have n5_ := aM (nb BK298 hg); have n6_ := aM (nb BK298 hg).symm; clear BK298 HB; have BK298 := n0_; have HB := n1_; have BK299 := n2_; have GE299 := n4_; have NB298_299 := n5_; have NB299_298 := n6_; clear n0_ n1_ n2_ n4_ n5_ n6_ hb hbox hg; have hnb10 := NB299_298.out; have hnc10 := NB298_299.out; have hcz11_0 : w9.cell? ⟨gb299, 0, none⟩ = some (.int .i64 a1_0) := (kC BK299.out 0).trans rfl; have hcz11_1 : w9.cell? ⟨gb299, 1, none⟩ = some (.slice A1_1 l1_1.length c1_1) := (kC BK299.out 1).trans rfl; have hcz11_2 : w9.cell? ⟨gb299, 2, none⟩ = some (.slice A1_2 l1_2.length c1_2) := (kC BK299.out 2).trans rfl; have hfz11_0 := kF BK299.out 0; have hfz11_1 := kF BK299.out 1; have hfz11_2 := kF BK299.out 2))
  go_loopg [5] k (fun kq v5 w' => ∃ (x5_1 : Int), v5 = .int .i64 x5_1 ∧ Aside0 (mapmakerref14_rel.l0 kq x5_1 l0_0 l0_1 l0_2 a1_0 l1_1 l1_2 = some r) ∧ Aside0 (kq ≤ k) ∧ Aside0 (w'.heap[gb298]? = some (.cells #[(.slice A0_0 l0_0.length c0_0), (.slice A0_1 l0_1.length c0_1), (.slice A0_2 l0_2.length c0_2)] 26 (0, 0))) ∧ Aside0 (w'.heap[gb299]? = some (.cells #[.int .i64 a1_0, (.slice A1_1 l1_1.length c1_1), (.slice A1_2 l1_2.length c1_2)] 51 (0, 0))) ∧ Aside0 (Below w.heap.size w w'))
  case atStart => exact ⟨(0), (by first | rfl | (simp; done) | (simp [*]; done)), H', ⟨Nat.le_refl _⟩, ⟨by (with_reducible repeat (first | refine kN ?_ _ | refine kD ?_ | refine kA ?_ _)); exact BK298.out⟩, ⟨by (with_reducible repeat (first | refine kN ?_ _ | refine kD ?_ | refine kA ?_ _)); exact BK299.out⟩, ⟨bl⟩⟩
  case round =>
   clear H'
   try clear c1
   try clear p2
   try clear c3
   try clear c3b0
   try clear c3b1
   try clear c4
   try clear c6
   try clear c10
   try clear hcz11_0 hcz11_1 hcz11_2 hfz11_0 hfz11_1 hfz11_2
   try clear hcz7_0 hcz7_1 hcz7_2 hfz7_0 hfz7_1 hfz7_2
   obtain ⟨x5_1, rfl, HA, HK1, BK298, BK299, HB⟩ := hrel
   cases gk with
   | zero => exact absurd HA.out (by simp [mapmakerref14_rel.l0])
   | succ k1 =>
    have H := HA.out
    clear HA
    simp only [mapmakerref14_rel.l0] at H
    by_cases c12 : x5_1 < (l1_1.length : Int)
    ·rw [if_pos c12] at H
     have c12b0 : decide (x5_1 < (l1_1.length : Int)) = true := decide_eq_true c12
     clear c12
     by_cases c13 : 0 ≤ x5_1
     ·rw [if_pos c13] at H
      have c13b0 : decide (0 ≤ x5_1) = true := decide_eq_true c13
      clear c13
      by_cases c14 : (((rd_T67 l1_1 x5_1).f1).size : Int) > 64
      ·rw [if_pos c14] at H
       have c14b0 : decide (64 < (((rd_T67 l1_1 x5_1).f1).size : Int)) = true := decide_eq_true c14
       have c14b1 : decide (64 < ((rd_T67 l1_1 x5_1).f1).size) = true := decide_eq_true (by omega)
       clear c14
       obtain rfl := Option.some.inj H
       have hnb15 := NB299_298.out
       have hnc15 := NB298_299.out
       have hcz16_0 : wr.cell? ⟨gb299, 0, none⟩ = some (.int .i64 a1_0) := (kC BK299.out 0).trans rfl
       have hcz16_1 : wr.cell? ⟨gb299, 1, none⟩ = some (.slice A1_1 l1_1.length c1_1) := (kC BK299.out 1).trans rfl
       have hcz16_2 : wr.cell? ⟨gb299, 2, none⟩ = some (.slice A1_2 l1_2.length c1_2) := (kC BK299.out 2).trans rfl
       have hfz16_0 := kF BK299.out 0
       have hfz16_1 := kF BK299.out 1
       have hfz16_2 := kF BK299.out 2
       have p300 : 0 ≤ (x5_1 : Int) := oT
       have q300 : x5_1 < (l1_1.length : Int) := oT
       obtain ⟨ad300, e300, hx300_0, hx300_1, hx300_2⟩ := at_T67 HR1_1.out x5_1 p300 q300
       cases e300
       replace hx300_0 := hs HB.out hx300_0
       replace hx300_1 := hs HB.out hx300_1
       replace hx300_2 := hs HB.out hx300_2
       replace p300 := eq_true p300
       replace q300 := eq_true q300
       go_wp2
       go_ret
       exact ⟨by first | rfl | (simp [errW_none, errW_some] <;> rfl) | (simp [*, errW_none, errW_some] <;> rfl), bl⟩
      ·rw [if_neg c14] at H
       have c14b0 : decide (64 < (((rd_T67 l1_1 x5_1).f1).size : Int)) = false := decide_eq_false c14
       have c14b1 : decide (64 < ((rd_T67 l1_1 x5_1).f1).size) = false := decide_eq_false (by omega)
       clear c14
       have H' := aM H
       clear H
       have hnb17 := NB299_298.out
       have hnc17 := NB298_299.out
       have hcz18_0 : wr.cell? ⟨gb299, 0, none⟩ = some (.int .i64 a1_0) := (kC BK299.out 0).trans rfl
       have hcz18_1 : wr.cell? ⟨gb299, 1, none⟩ = some (.slice A1_1 l1_1.length c1_1) := (kC BK299.out 1).trans rfl
       have hcz18_2 : wr.cell? ⟨gb299, 2, none⟩ = some (.slice A1_2 l1_2.length c1_2) := (kC BK299.out 2).trans rfl
       have hfz18_0 := kF BK299.out 0
       have hfz18_1 := kF BK299.out 1
       have hfz18_2 := kF BK299.out 2
       have p300 : 0 ≤ (x5_1 : Int) := oT
       have q300 : x5_1 < (l1_1.length : Int) := oT
       obtain ⟨ad300, e300, hx300_0, hx300_1, hx300_2⟩ := at_T67 HR1_1.out x5_1 p300 q300
       cases e300
       replace hx300_0 := hs HB.out hx300_0
       replace hx300_1 := hs HB.out hx300_1
       replace hx300_2 := hs HB.out hx300_2
       replace p300 := eq_true p300
       replace q300 := eq_true q300
       go_wp2
       go_roundg k1
       case measure => have := HK1.out; omega
       case rel => exact ⟨(wrap64 (x5_1 + 1)), (by first | rfl | (simp; done) | (simp [*]; done)), H', ⟨by have := HK1.out; omega⟩, ⟨by (with_reducible repeat (first | refine kN ?_ _ | refine kD ?_ | refine kA ?_ _)); exact BK298.out⟩, ⟨by (with_reducible repeat (first | refine kN ?_ _ | refine kD ?_ | refine kA ?_ _)); exact BK299.out⟩, ⟨bl⟩⟩
     ·rw [if_neg c13] at H
      exact absurd H (by simp)
    ·rw [if_neg c12] at H
     have c12b0 : decide (x5_1 < (l1_1.length : Int)) = false := decide_eq_false c12
     clear c12
     have H' := aM H
     clear H
     have hnb19 := NB299_298.out
     have hnc19 := NB298_299.out
     have hcz20_0 : wr.cell? ⟨gb299, 0, none⟩ = some (.int .i64 a1_0) := (kC BK299.out 0).trans rfl
     have hcz20_1 : wr.cell? ⟨gb299, 1, none⟩ = some (.slice A1_1 l1_1.length c1_1) := (kC BK299.out 1).trans rfl
     have hcz20_2 : wr.cell? ⟨gb299, 2, none⟩ = some (.slice A1_2 l1_2.length c1_2) := (kC BK299.out 2).trans rfl
     have hfz20_0 := kF BK299.out 0
     have hfz20_1 := kF BK299.out 1
     have hfz20_2 := kF BK299.out 2
     go_wp2
     go_loopg [6] k1 (fun kq v6 w' => ∃ (x6_2 : Int), v6 = .int .i64 x6_2 ∧ Aside0 (mapmakerref14_rel.l1 kq x6_2 l0_0 l0_1 l0_2 a1_0 l1_1 l1_2 = some r) ∧ Aside0 (kq ≤ k1) ∧ Aside0 (w'.heap[gb298]? = some (.cells #[(.slice A0_0 l0_0.length c0_0), (.slice A0_1 l0_1.length c0_1), (.slice A0_2 l0_2.length c0_2)] 26 (0, 0))) ∧ Aside0 (w'.heap[gb299]? = some (.cells #[.int .i64 a1_0, (.slice A1_1 l1_1.length c1_1), (.slice A1_2 l1_2.length c1_2)] 51 (0, 0))) ∧ Aside0 (Below w.heap.size w w'))
     case atStart => exact ⟨(0), (by first | rfl | (simp; done) | (simp [*]; done)), H', ⟨Nat.le_refl _⟩, ⟨by (with_reducible repeat (first | refine kN ?_ _ | refine kD ?_ | refine kA ?_ _)); exact BK298.out⟩, ⟨by (with_reducible repeat (first | refine kN ?_ _ | refine kD ?_ | refine kA ?_ _)); exact BK299.out⟩, ⟨bl⟩⟩
     case round =>
      clear H'
      try clear c1
      try clear p2
      try clear c3
      try clear c3b0
      try clear c3b1
      try clear p3
      try clear q3
      try clear hx3
      try clear c4
      try clear c6
      try clear p6
      try clear c10
      try clear c12
      try clear c12b0
      try clear c13
      try clear c13b0
      try clear c14
      try clear c14b0
      try clear c14b1
      try clear c15
      try clear c17
      try clear c19
      try clear hcz11_0 hcz11_1 hcz11_2 hfz11_0 hfz11_1 hfz11_2
      try clear hcz16_0 hcz16_1 hcz16_2 hfz16_0 hfz16_1 hfz16_2
      try clear hcz18_0 hcz18_1 hcz18_2 hfz18_0 hfz18_1 hfz18_2
      try clear hcz20_0 hcz20_1 hcz20_2 hfz20_0 hfz20_1 hfz20_2
      try clear hcz7_0 hcz7_1 hcz7_2 hfz7_0 hfz7_1 hfz7_2
      try clear hx300_0
      try clear hx300_1
      try clear hx300_2
      try clear p2
      try clear p300
      try clear q300
      obtain ⟨x6_2, rfl, HA, HK2, BK298, BK299, HB⟩ := hrel
      cases gk with
      | zero => exact absurd HA.out (by simp [mapmakerref14_rel.l1])
      | succ k2 =>
       have H := HA.out
       clear HA
       simp only [mapmakerref14_rel.l1] at H
       by_cases c21 : x6_2 < (l1_1.length : Int)
       ·rw [if_pos c21] at H
        have c21b0 : decide (x6_2 < (l1_1.length : Int)) = true := decide_eq_true c21
        clear c21
        by_cases c22 : 0 ≤ x6_2
        ·rw [if_pos c22] at H
         have c22b0 : decide (0 ≤ x6_2) = true := decide_eq_true c22
         clear c22
         by_cases c23 : ((rd_T67 l1_1 x6_2).f0.f0) = 1
         ·rw [if_pos c23] at H
          have c23b0 : (((rd_T67 l1_1 x6_2).f0.f0) == 1) = true := beq_iff_eq.mpr c23
          have c23b1 : (((rd_T67 l1_1 x6_2).f0.f0) != 1) = false := bne_eq_false_iff_eq.mpr c23
          clear c23
          replace H := Option.bind_eq_some_iff.mp H
          obtain ⟨t303, A240, H⟩ := H
          try dsimp only at H
          have A24 := aM A240
          clear A240
          by_cases c25 : t303 = true
          ·subst c25
           have H1 : (mapmakerref14_rel.l1 k2 (wrap64 (x6_2 + 1)) l0_0 l0_1 l0_2 a1_0 l1_1 l1_2) = some r := by rw [if_pos rfl] at H; exact H
           clear H
           have H := H1
           clear H1
           have H' := aM H
           clear H
           have hnb26 := NB299_298.out
           have hnc26 := NB298_299.out
           have hcz27_0 : wr.cell? ⟨gb299, 0, none⟩ = some (.int .i64 a1_0) := (kC BK299.out 0).trans rfl
           have hcz27_1 : wr.cell? ⟨gb299, 1, none⟩ = some (.slice A1_1 l1_1.length c1_1) := (kC BK299.out 1).trans rfl
           have hcz27_2 : wr.cell? ⟨gb299, 2, none⟩ = some (.slice A1_2 l1_2.length c1_2) := (kC BK299.out 2).trans rfl
           have hfz27_0 := kF BK299.out 0
           have hfz27_1 := kF BK299.out 1
           have hfz27_2 := kF BK299.out 2
           have p301 : 0 ≤ (x6_2 : Int) := oT
           have q301 : x6_2 < (l1_1.length : Int) := oT
           obtain ⟨ad301, e301, hx301_0, hx301_1, hx301_2⟩ := at_T67 HR1_1.out x6_2 p301 q301
           cases e301
           replace hx301_0 := hs HB.out hx301_0
           replace hx301_1 := hs HB.out hx301_1
           replace hx301_2 := hs HB.out hx301_2
           replace p301 := eq_true p301
           replace q301 := eq_true q301
           go_wp2_with (first | ((with_reducible refine gate_dst (N := 7) rfl ?_); refine bx (N := 7) (cs := #[.int .i64 0, .int .i64 0]) (t := 34) ?_; intro gb302 hg w28 hbox hb; have n0_ := aM (kB (kl BK298) hb); have n1_ := aM (kB (kl BK299) hb); have n2_ := aM (bS (bl) hb); have n3_ := aM (hbox); have n5_ := aM (gw (w := w) hg); have n6_ := aM (nb BK298 hg); have n7_ := aM (nb BK298 hg).symm; have n8_ := aM (nb BK299 hg); have n9_ := aM (nb BK299 hg).symm; clear BK298 BK299 HB; have BK298 := n0_; have BK299 := n1_; have HB := n2_; have BK302 := n3_; have GE302 := n5_; have NB298_302 := n6_; have NB302_298 := n7_; have NB299_302 := n8_; have NB302_299 := n9_; clear n0_ n1_ n2_ n3_ n5_ n6_ n7_ n8_ n9_ hb hbox hg; have hnb29 := NB302_298.out; have hnc29 := NB298_302.out; have hnb30 := NB302_299.out; have hnc30 := NB299_302.out; have hcz31_0 : w28.cell? ⟨gb302, 0, none⟩ = some (.int .i64 0) := (kC BK302.out 0).trans rfl; have hcz31_1 : w28.cell? ⟨gb302, 1, none⟩ = some (.int .i64 0) := (kC BK302.out 1).trans rfl; have hfz31_0 := kF BK302.out 0; have hfz31_1 := kF BK302.out 1; have hcz32_0 : w28.cell? ⟨gb298, 0, none⟩ = some (.slice A0_0 l0_0.length c0_0) := (kC BK298.out 0).trans rfl; have hcz32_1 : w28.cell? ⟨gb298, 1, none⟩ = some (.slice A0_1 l0_1.length c0_1) := (kC BK298.out 1).trans rfl; have hcz32_2 : w28.cell? ⟨gb298, 2, none⟩ = some (.slice A0_2 l0_2.length c0_2) := (kC BK298.out 2).trans rfl; have hfz32_0 := kF BK298.out 0; have hfz32_1 := kF BK298.out 1; have hfz32_2 := kF BK298.out 2) | (go_at_call 22; (with_reducible refine (mapmakerref14_Has.calls k2 _ _ l0_0 _ _ l0_1 _ _ l0_2 ((rd_T67 l1_1 x6_2).f0.f0) ((rd_T67 l1_1 x6_2).f0.f1) true _ ?side1 ?side2 ?side3 ?side4 ?side5 ?side6 A24.out).mono ?_); (case side1 => exact Kd.C_below HR0_0.out (bl)); (case side2 => exact HC0_0.out); (case side3 => exact Kd.C_below HR0_1.out (bl)); (case side4 => exact HC0_1.out); (case side5 => exact Kd.C_below HR0_2.out (bl)); (case side6 => exact HC0_2.out); rintro e w33 ⟨rfl, hb⟩; have n0_ := aM (kB (g := gb298) (o := .cells #[.slice A0_0 l0_0.length c0_0, .slice A0_1 l0_1.length c0_1, .slice A0_2 l0_2.length c0_2] 26 (0, 0)) (by (with_reducible repeat (first | refine kN ?_ _ | refine kD ?_ | refine kA ?_ _)); refine blk_far ?_ NB298_302.out _; (with_reducible repeat (first | refine kN ?_ _ | refine kD ?_ | refine kA ?_ _)); refine blk_far ?_ NB298_302.out _; (with_reducible repeat (first | refine kN ?_ _ | refine kD ?_ | refine kA ?_ _)); exact BK298.out) hb); have n1_ := aM (kB (g := gb299) (o := .cells #[.int .i64 a1_0, .slice (some ad301) l1_1.length c1_1, .slice A1_2 l1_2.length c1_2] 51 (0, 0)) (by (with_reducible repeat (first | refine kN ?_ _ | refine kD ?_ | refine kA ?_ _)); refine blk_far ?_ NB299_302.out _; (with_reducible repeat (first | refine kN ?_ _ | refine kD ?_ | refine kA ?_ _)); refine blk_far ?_ NB299_302.out _; (with_reducible repeat (first | refine kN ?_ _ | refine kD ?_ | refine kA ?_ _)); exact BK299.out) hb); have n2_ := aM (kB (g := gb302) (o := .cells #[.int .i64 ((rd_T67 l1_1 x6_2).f0.f0), .int .i64 ((rd_T67 l1_1 x6_2).f0.f1)] 34 (0, 0)) (by (with_reducible repeat (first | refine kN ?_ _ | refine kD ?_ | refine kA ?_ _)); refine kP (cs := #[.int .i64 ((rd_T67 l1_1 x6_2).f0.f0), .int .i64 0]) ?_ 1 _ rfl; (with_reducible repeat (first | refine kN ?_ _ | refine kD ?_ | refine kA ?_ _)); refine kP (cs := #[.int .i64 0, .int .i64 0]) ?_ 0 _ rfl; (with_reducible repeat (first | refine kN ?_ _ | refine kD ?_ | refine kA ?_ _)); exact BK302.out) hb); have n3_ := aM (bS (bl) hb); clear BK298 BK299 BK302 HB; have BK298 := n0_; have BK299 := n1_; have BK302 := n2_; have HB := n3_; clear n0_ n1_ n2_ n3_; (try clear hb); (try clear hb2); (try clear hk); (try clear hi)))
           go_roundg k2
           case measure => have := HK1.out; have := HK2.out; omega
           case rel => exact ⟨(wrap64 (x6_2 + 1)), (by first | rfl | (simp; done) | (simp [*]; done)), H', ⟨by have := HK1.out; have := HK2.out; omega⟩, ⟨by (with_reducible repeat (first | refine kN ?_ _ | refine kD ?_ | refine kA ?_ _)); exact BK298.out⟩, ⟨by (with_reducible repeat (first | refine kN ?_ _ | refine kD ?_ | refine kA ?_ _)); exact BK299.out⟩, ⟨bl⟩⟩
          ·replace c25 := Bool.eq_false_iff.mpr c25
           subst c25
           have H1 : (some 9) = some r := by rw [if_neg (show ¬ (false = true) by decide)] at H; exact H
           clear H
           have H := H1
           clear H1
           obtain rfl := Option.some.inj H
           have hnb34 := NB299_298.out
           have hnc34 := NB298_299.out
           have hcz35_0 : wr.cell? ⟨gb299, 0, none⟩ = some (.int .i64 a1_0) := (kC BK299.out 0).trans rfl
           have hcz35_1 : wr.cell? ⟨gb299, 1, none⟩ = some (.slice A1_1 l1_1.length c1_1) := (kC BK299.out 1).trans rfl
           have hcz35_2 : wr.cell? ⟨gb299, 2, none⟩ = some (.slice A1_2 l1_2.length c1_2) := (kC BK299.out 2).trans rfl
           have hfz35_0 := kF BK299.out 0
           have hfz35_1 := kF BK299.out 1
           have hfz35_2 := kF BK299.out 2
           have p301 : 0 ≤ (x6_2 : Int) := oT
           have q301 : x6_2 < (l1_1.length : Int) := oT
           obtain ⟨ad301, e301, hx301_0, hx301_1, hx301_2⟩ := at_T67 HR1_1.out x6_2 p301 q301
           cases e301
           replace hx301_0 := hs HB.out hx301_0
           replace hx301_1 := hs HB.out hx301_1
           replace hx301_2 := hs HB.out hx301_2
           replace p301 := eq_true p301
           replace q301 := eq_true q301
           go_wp2_with (first | ((with_reducible refine gate_dst (N := 7) rfl ?_); refine bx (N := 7) (cs := #[.int .i64 0, .int .i64 0]) (t := 34) ?_; intro gb302 hg w36 hbox hb; have n0_ := aM (kB (kl BK298) hb); have n1_ := aM (kB (kl BK299) hb); have n2_ := aM (bS (bl) hb); have n3_ := aM (hbox); have n5_ := aM (gw (w := w) hg); have n6_ := aM (nb BK298 hg); have n7_ := aM (nb BK298 hg).symm; have n8_ := aM (nb BK299 hg); have n9_ := aM (nb BK299 hg).symm; clear BK298 BK299 HB; have BK298 := n0_; have BK299 := n1_; have HB := n2_; have BK302 := n3_; have GE302 := n5_; have NB298_302 := n6_; have NB302_298 := n7_; have NB299_302 := n8_; have NB302_299 := n9_; clear n0_ n1_ n2_ n3_ n5_ n6_ n7_ n8_ n9_ hb hbox hg; have hnb37 := NB302_298.out; have hnc37 := NB298_302.out; have hnb38 := NB302_299.out; have hnc38 := NB299_302.out; have hcz39_0 : w36.cell? ⟨gb302, 0, none⟩ = some (.int .i64 0) := (kC BK302.out 0).trans rfl; have hcz39_1 : w36.cell? ⟨gb302, 1, none⟩ = some (.int .i64 0) := (kC BK302.out 1).trans rfl; have hfz39_0 := kF BK302.out 0; have hfz39_1 := kF BK302.out 1; have hcz40_0 : w36.cell? ⟨gb298, 0, none⟩ = some (.slice A0_0 l0_0.length c0_0) := (kC BK298.out 0).trans rfl; have hcz40_1 : w36.cell? ⟨gb298, 1, none⟩ = some (.slice A0_1 l0_1.length c0_1) := (kC BK298.out 1).trans rfl; have hcz40_2 : w36.cell? ⟨gb298, 2, none⟩ = some (.slice A0_2 l0_2.length c0_2) := (kC BK298.out 2).trans rfl; have hfz40_0 := kF BK298.out 0; have hfz40_1 := kF BK298.out 1; have hfz40_2 := kF BK298.out 2) | (go_at_call 22; (with_reducible refine (mapmakerref14_Has.calls k2 _ _ l0_0 _ _ l0_1 _ _ l0_2 ((rd_T67 l1_1 x6_2).f0.f0) ((rd_T67 l1_1 x6_2).f0.f1) false _ ?side1 ?side2 ?side3 ?side4 ?side5 ?side6 A24.out).mono ?_); (case side1 => exact Kd.C_below HR0_0.out (bl)); (case side2 => exact HC0_0.out); (case side3 => exact Kd.C_below HR0_1.out (bl)); (case side4 => exact HC0_1.out); (case side5 => exact Kd.C_below HR0_2.out (bl)); (case side6 => exact HC0_2.out); rintro e w41 ⟨rfl, hb⟩; have n0_ := aM (kB (g := gb298) (o := .cells #[.slice A0_0 l0_0.length c0_0, .slice A0_1 l0_1.length c0_1, .slice A0_2 l0_2.length c0_2] 26 (0, 0)) (by (with_reducible repeat (first | refine kN ?_ _ | refine kD ?_ | refine kA ?_ _)); refine blk_far ?_ NB298_302.out _; (with_reducible repeat (first | refine kN ?_ _ | refine kD ?_ | refine kA ?_ _)); refine blk_far ?_ NB298_302.out _; (with_reducible repeat (first | refine kN ?_ _ | refine kD ?_ | refine kA ?_ _)); exact BK298.out) hb); have n1_ := aM (kB (g := gb299) (o := .cells #[.int .i64 a1_0, .slice (some ad301) l1_1.length c1_1, .slice A1_2 l1_2.length c1_2] 51 (0, 0)) (by (with_reducible repeat (first | refine kN ?_ _ | refine kD ?_ | refine kA ?_ _)); refine blk_far ?_ NB299_302.out _; (with_reducible repeat (first | refine kN ?_ _ | refine kD ?_ | refine kA ?_ _)); refine blk_far ?_ NB299_302.out _; (with_reducible repeat (first | refine kN ?_ _ | refine kD ?_ | refine kA ?_ _)); exact BK299.out) hb); have n2_ := aM (kB (g := gb302) (o := .cells #[.int .i64 ((rd_T67 l1_1 x6_2).f0.f0), .int .i64 ((rd_T67 l1_1 x6_2).f0.f1)] 34 (0, 0)) (by (with_reducible repeat (first | refine kN ?_ _ | refine kD ?_ | refine kA ?_ _)); refine kP (cs := #[.int .i64 ((rd_T67 l1_1 x6_2).f0.f0), .int .i64 0]) ?_ 1 _ rfl; (with_reducible repeat (first | refine kN ?_ _ | refine kD ?_ | refine kA ?_ _)); refine kP (cs := #[.int .i64 0, .int .i64 0]) ?_ 0 _ rfl; (with_reducible repeat (first | refine kN ?_ _ | refine kD ?_ | refine kA ?_ _)); exact BK302.out) hb); have n3_ := aM (bS (bl) hb); clear BK298 BK299 BK302 HB; have BK298 := n0_; have BK299 := n1_; have BK302 := n2_; have HB := n3_; clear n0_ n1_ n2_ n3_; (try clear hb); (try clear hb2); (try clear hk); (try clear hi)))
           go_ret
           exact ⟨by first | rfl | (simp [errW_none, errW_some] <;> rfl) | (simp [*, errW_none, errW_some] <;> rfl), bl⟩
         ·rw [if_neg c23] at H
          have c23b0 : (((rd_T67 l1_1 x6_2).f0.f0) == 1) = false := beq_eq_false_iff_ne.mpr c23
          have c23b1 : (((rd_T67 l1_1 x6_2).f0.f0) != 1) = true := bne_iff_ne.mpr c23
          by_cases c42 : ((rd_T67 l1_1 x6_2).f0.f0) = 2
          ·rw [if_pos c42] at H
           have c42b0 : (((rd_T67 l1_1 x6_2).f0.f0) == 2) = true := beq_iff_eq.mpr c42
           have c42b1 : (((rd_T67 l1_1 x6_2).f0.f0) != 2) = false := bne_eq_false_iff_eq.mpr c42
           clear c42
           replace H := Option.bind_eq_some_iff.mp H
           obtain ⟨t304, A430, H⟩ := H
           try dsimp only at H
           have A43 := aM A430
           clear A430
           by_cases c44 : t304 = true
           ·subst c44
            have H1 : (mapmakerref14_rel.l1 k2 (wrap64 (x6_2 + 1)) l0_0 l0_1 l0_2 a1_0 l1_1 l1_2) = some r := by rw [if_pos rfl] at H; exact H
            clear H
            have H := H1
            clear H1
            have H' := aM H
            clear H
            have hnb45 := NB299_298.out
            have hnc45 := NB298_299.out
            have hcz46_0 : wr.cell? ⟨gb299, 0, none⟩ = some (.int .i64 a1_0) := (kC BK299.out 0).trans rfl
            have hcz46_1 : wr.cell? ⟨gb299, 1, none⟩ = some (.slice A1_1 l1_1.length c1_1) := (kC BK299.out 1).trans rfl
            have hcz46_2 : wr.cell? ⟨gb299, 2, none⟩ = some (.slice A1_2 l1_2.length c1_2) := (kC BK299.out 2).trans rfl
            have hfz46_0 := kF BK299.out 0
            have hfz46_1 := kF BK299.out 1
            have hfz46_2 := kF BK299.out 2
            have p301 : 0 ≤ (x6_2 : Int) := oT
            have q301 : x6_2 < (l1_1.length : Int) := oT
            obtain ⟨ad301, e301, hx301_0, hx301_1, hx301_2⟩ := at_T67 HR1_1.out x6_2 p301 q301
            cases e301
            replace hx301_0 := hs HB.out hx301_0
            replace hx301_1 := hs HB.out hx301_1
            replace hx301_2 := hs HB.out hx301_2
            replace p301 := eq_true p301
            replace q301 := eq_true q301
            go_wp2_with (first | ((with_reducible refine gate_dst (N := 7) rfl ?_); refine bx (N := 7) (cs := #[.int .i64 0, .int .i64 0]) (t := 34) ?_; intro gb302 hg w47 hbox hb; have n0_ := aM (kB (kl BK298) hb); have n1_ := aM (kB (kl BK299) hb); have n2_ := aM (bS (bl) hb); have n3_ := aM (hbox); have n5_ := aM (gw (w := w) hg); have n6_ := aM (nb BK298 hg); have n7_ := aM (nb BK298 hg).symm; have n8_ := aM (nb BK299 hg); have n9_ := aM (nb BK299 hg).symm; clear BK298 BK299 HB; have BK298 := n0_; have BK299 := n1_; have HB := n2_; have BK302 := n3_; have GE302 := n5_; have NB298_302 := n6_; have NB302_298 := n7_; have NB299_302 := n8_; have NB302_299 := n9_; clear n0_ n1_ n2_ n3_ n5_ n6_ n7_ n8_ n9_ hb hbox hg; have hnb48 := NB302_298.out; have hnc48 := NB298_302.out; have hnb49 := NB302_299.out; have hnc49 := NB299_302.out; have hcz50_0 : w47.cell? ⟨gb302, 0, none⟩ = some (.int .i64 0) := (kC BK302.out 0).trans rfl; have hcz50_1 : w47.cell? ⟨gb302, 1, none⟩ = some (.int .i64 0) := (kC BK302.out 1).trans rfl; have hfz50_0 := kF BK302.out 0; have hfz50_1 := kF BK302.out 1; have hcz51_0 : w47.cell? ⟨gb298, 0, none⟩ = some (.slice A0_0 l0_0.length c0_0) := (kC BK298.out 0).trans rfl; have hcz51_1 : w47.cell? ⟨gb298, 1, none⟩ = some (.slice A0_1 l0_1.length c0_1) := (kC BK298.out 1).trans rfl; have hcz51_2 : w47.cell? ⟨gb298, 2, none⟩ = some (.slice A0_2 l0_2.length c0_2) := (kC BK298.out 2).trans rfl; have hfz51_0 := kF BK298.out 0; have hfz51_1 := kF BK298.out 1; have hfz51_2 := kF BK298.out 2) | (go_at_call 22; (with_reducible refine (mapmakerref14_Has.calls k2 _ _ l0_0 _ _ l0_1 _ _ l0_2 ((rd_T67 l1_1 x6_2).f0.f0) ((rd_T67 l1_1 x6_2).f0.f1) true _ ?side1 ?side2 ?side3 ?side4 ?side5 ?side6 A43.out).mono ?_); (case side1 => exact Kd.C_below HR0_0.out (bl)); (case side2 => exact HC0_0.out); (case side3 => exact Kd.C_below HR0_1.out (bl)); (case side4 => exact HC0_1.out); (case side5 => exact Kd.C_below HR0_2.out (bl)); (case side6 => exact HC0_2.out); rintro e w52 ⟨rfl, hb⟩; have n0_ := aM (kB (g := gb298) (o := .cells #[.slice A0_0 l0_0.length c0_0, .slice A0_1 l0_1.length c0_1, .slice A0_2 l0_2.length c0_2] 26 (0, 0)) (by (with_reducible repeat (first | refine kN ?_ _ | refine kD ?_ | refine kA ?_ _)); refine blk_far ?_ NB298_302.out _; (with_reducible repeat (first | refine kN ?_ _ | refine kD ?_ | refine kA ?_ _)); refine blk_far ?_ NB298_302.out _; (with_reducible repeat (first | refine kN ?_ _ | refine kD ?_ | refine kA ?_ _)); exact BK298.out) hb); have n1_ := aM (kB (g := gb299) (o := .cells #[.int .i64 a1_0, .slice (some ad301) l1_1.length c1_1, .slice A1_2 l1_2.length c1_2] 51 (0, 0)) (by (with_reducible repeat (first | refine kN ?_ _ | refine kD ?_ | refine kA ?_ _)); refine blk_far ?_ NB299_302.out _; (with_reducible repeat (first | refine kN ?_ _ | refine kD ?_ | refine kA ?_ _)); refine blk_far ?_ NB299_302.out _; (with_reducible repeat (first | refine kN ?_ _ | refine kD ?_ | refine kA ?_ _)); exact BK299.out) hb); have n2_ := aM (kB (g := gb302) (o := .cells #[.int .i64 ((rd_T67 l1_1 x6_2).f0.f0), .int .i64 ((rd_T67 l1_1 x6_2).f0.f1)] 34 (0, 0)) (by (with_reducible repeat (first | refine kN ?_ _ | refine kD ?_ | refine kA ?_ _)); refine kP (cs := #[.int .i64 ((rd_T67 l1_1 x6_2).f0.f0), .int .i64 0]) ?_ 1 _ rfl; (with_reducible repeat (first | refine kN ?_ _ | refine kD ?_ | refine kA ?_ _)); refine kP (cs := #[.int .i64 0, .int .i64 0]) ?_ 0 _ rfl; (with_reducible repeat (first | refine kN ?_ _ | refine kD ?_ | refine kA ?_ _)); exact BK302.out) hb); have n3_ := aM (bS (bl) hb); clear BK298 BK299 BK302 HB; have BK298 := n0_; have BK299 := n1_; have BK302 := n2_; have HB := n3_; clear n0_ n1_ n2_ n3_; (try clear hb); (try clear hb2); (try clear hk); (try clear hi)))
            go_roundg k2
            case measure => have := HK1.out; have := HK2.out; omega
            case rel => exact ⟨(wrap64 (x6_2 + 1)), (by first | rfl | (simp; done) | (simp [*]; done)), H', ⟨by have := HK1.out; have := HK2.out; omega⟩, ⟨by (with_reducible repeat (first | refine kN ?_ _ | refine kD ?_ | refine kA ?_ _)); exact BK298.out⟩, ⟨by (with_reducible repeat (first | refine kN ?_ _ | refine kD ?_ | refine kA ?_ _)); exact BK299.out⟩, ⟨bl⟩⟩
           ·replace c44 := Bool.eq_false_iff.mpr c44
            subst c44
            have H1 : (some 9) = some r := by rw [if_neg (show ¬ (false = true) by decide)] at H; exact H
            clear H
            have H := H1
            clear H1
            obtain rfl := Option.some.inj H
            have hnb53 := NB299_298.out
            have hnc53 := NB298_299.out
            have hcz54_0 : wr.cell? ⟨gb299, 0, none⟩ = some (.int .i64 a1_0) := (kC BK299.out 0).trans rfl
            have hcz54_1 : wr.cell? ⟨gb299, 1, none⟩ = some (.slice A1_1 l1_1.length c1_1) := (kC BK299.out 1).trans rfl
            have hcz54_2 : wr.cell? ⟨gb299, 2, none⟩ = some (.slice A1_2 l1_2.length c1_2) := (kC BK299.out 2).trans rfl
            have hfz54_0 := kF BK299.out 0
            have hfz54_1 := kF BK299.out 1
            have hfz54_2 := kF BK299.out 2
            have p301 : 0 ≤ (x6_2 : Int) := oT
            have q301 : x6_2 < (l1_1.length : Int) := oT
            obtain ⟨ad301, e301, hx301_0, hx301_1, hx301_2⟩ := at_T67 HR1_1.out x6_2 p301 q301
            cases e301
            replace hx301_0 := hs HB.out hx301_0
            replace hx301_1 := hs HB.out hx301_1
            replace hx301_2 := hs HB.out hx301_2
            replace p301 := eq_true p301
            replace q301 := eq_true q301
            go_wp2_with (first | ((with_reducible refine gate_dst (N := 7) rfl ?_); refine bx (N := 7) (cs := #[.int .i64 0, .int .i64 0]) (t := 34) ?_; intro gb302 hg w55 hbox hb; have n0_ := aM (kB (kl BK298) hb); have n1_ := aM (kB (kl BK299) hb); have n2_ := aM (bS (bl) hb); have n3_ := aM (hbox); have n5_ := aM (gw (w := w) hg); have n6_ := aM (nb BK298 hg); have n7_ := aM (nb BK298 hg).symm; have n8_ := aM (nb BK299 hg); have n9_ := aM (nb BK299 hg).symm; clear BK298 BK299 HB; have BK298 := n0_; have BK299 := n1_; have HB := n2_; have BK302 := n3_; have GE302 := n5_; have NB298_302 := n6_; have NB302_298 := n7_; have NB299_302 := n8_; have NB302_299 := n9_; clear n0_ n1_ n2_ n3_ n5_ n6_ n7_ n8_ n9_ hb hbox hg; have hnb56 := NB302_298.out; have hnc56 := NB298_302.out; have hnb57 := NB302_299.out; have hnc57 := NB299_302.out; have hcz58_0 : w55.cell? ⟨gb302, 0, none⟩ = some (.int .i64 0) := (kC BK302.out 0).trans rfl; have hcz58_1 : w55.cell? ⟨gb302, 1, none⟩ = some (.int .i64 0) := (kC BK302.out 1).trans rfl; have hfz58_0 := kF BK302.out 0; have hfz58_1 := kF BK302.out 1; have hcz59_0 : w55.cell? ⟨gb298, 0, none⟩ = some (.slice A0_0 l0_0.length c0_0) := (kC BK298.out 0).trans rfl; have hcz59_1 : w55.cell? ⟨gb298, 1, none⟩ = some (.slice A0_1 l0_1.length c0_1) := (kC BK298.out 1).trans rfl; have hcz59_2 : w55.cell? ⟨gb298, 2, none⟩ = some (.slice A0_2 l0_2.length c0_2) := (kC BK298.out 2).trans rfl; have hfz59_0 := kF BK298.out 0; have hfz59_1 := kF BK298.out 1; have hfz59_2 := kF BK298.out 2) | (go_at_call 22; (with_reducible refine (mapmakerref14_Has.calls k2 _ _ l0_0 _ _ l0_1 _ _ l0_2 ((rd_T67 l1_1 x6_2).f0.f0) ((rd_T67 l1_1 x6_2).f0.f1) false _ ?side1 ?side2 ?side3 ?side4 ?side5 ?side6 A43.out).mono ?_); (case side1 => exact Kd.C_below HR0_0.out (bl)); (case side2 => exact HC0_0.out); (case side3 => exact Kd.C_below HR0_1.out (bl)); (case side4 => exact HC0_1.out); (case side5 => exact Kd.C_below HR0_2.out (bl)); (case side6 => exact HC0_2.out); rintro e w60 ⟨rfl, hb⟩; have n0_ := aM (kB (g := gb298) (o := .cells #[.slice A0_0 l0_0.length c0_0, .slice A0_1 l0_1.length c0_1, .slice A0_2 l0_2.length c0_2] 26 (0, 0)) (by (with_reducible repeat (first | refine kN ?_ _ | refine kD ?_ | refine kA ?_ _)); refine blk_far ?_ NB298_302.out _; (with_reducible repeat (first | refine kN ?_ _ | refine kD ?_ | refine kA ?_ _)); refine blk_far ?_ NB298_302.out _; (with_reducible repeat (first | refine kN ?_ _ | refine kD ?_ | refine kA ?_ _)); exact BK298.out) hb); have n1_ := aM (kB (g := gb299) (o := .cells #[.int .i64 a1_0, .slice (some ad301) l1_1.length c1_1, .slice A1_2 l1_2.length c1_2] 51 (0, 0)) (by (with_reducible repeat (first | refine kN ?_ _ | refine kD ?_ | refine kA ?_ _)); refine blk_far ?_ NB299_302.out _; (with_reducible repeat (first | refine kN ?_ _ | refine kD ?_ | refine kA ?_ _)); refine blk_far ?_ NB299_302.out _; (with_reducible repeat (first | refine kN ?_ _ | refine kD ?_ | refine kA ?_ _)); exact BK299.out) hb); have n2_ := aM (kB (g := gb302) (o := .cells #[.int .i64 ((rd_T67 l1_1 x6_2).f0.f0), .int .i64 ((rd_T67 l1_1 x6_2).f0.f1)] 34 (0, 0)) (by (with_reducible repeat (first | refine kN ?_ _ | refine kD ?_ | refine kA ?_ _)); refine kP (cs := #[.int .i64 ((rd_T67 l1_1 x6_2).f0.f0), .int .i64 0]) ?_ 1 _ rfl; (with_reducible repeat (first | refine kN ?_ _ | refine kD ?_ | refine kA ?_ _)); refine kP (cs := #[.int .i64 0, .int .i64 0]) ?_ 0 _ rfl; (with_reducible repeat (first | refine kN ?_ _ | refine kD ?_ | refine kA ?_ _)); exact BK302.out) hb); have n3_ := aM (bS (bl) hb); clear BK298 BK299 BK302 HB; have BK298 := n0_; have BK299 := n1_; have BK302 := n2_; have HB := n3_; clear n0_ n1_ n2_ n3_; (try clear hb); (try clear hb2); (try clear hk); (try clear hi)))
            go_ret
            exact ⟨by first | rfl | (simp [errW_none, errW_some] <;> rfl) | (simp [*, errW_none, errW_some] <;> rfl), bl⟩
          ·rw [if_neg c42] at H
           have c42b0 : (((rd_T67 l1_1 x6_2).f0.f0) == 2) = false := beq_eq_false_iff_ne.mpr c42
           have c42b1 : (((rd_T67 l1_1 x6_2).f0.f0) != 2) = true := bne_iff_ne.mpr c42
           obtain rfl := Option.some.inj H
           have hnb61 := NB299_298.out
           have hnc61 := NB298_299.out
           have hcz62_0 : wr.cell? ⟨gb299, 0, none⟩ = some (.int .i64 a1_0) := (kC BK299.out 0).trans rfl
           have hcz62_1 : wr.cell? ⟨gb299, 1, none⟩ = some (.slice A1_1 l1_1.length c1_1) := (kC BK299.out 1).trans rfl
           have hcz62_2 : wr.cell? ⟨gb299, 2, none⟩ = some (.slice A1_2 l1_2.length c1_2) := (kC BK299.out 2).trans rfl
           have hfz62_0 := kF BK299.out 0
           have hfz62_1 := kF BK299.out 1
           have hfz62_2 := kF BK299.out 2
           have p301 : 0 ≤ (x6_2 : Int) := oT
           have q301 : x6_2 < (l1_1.length : Int) := oT
           obtain ⟨ad301, e301, hx301_0, hx301_1, hx301_2⟩ := at_T67 HR1_1.out x6_2 p301 q301
           cases e301
           replace hx301_0 := hs HB.out hx301_0
           replace hx301_1 := hs HB.out hx301_1
           replace hx301_2 := hs HB.out hx301_2
           replace p301 := eq_true p301
           replace q301 := eq_true q301
           go_wp2_with (first | ((with_reducible refine gate_dst (N := 7) rfl ?_); refine bx (N := 7) (cs := #[.int .i64 0, .int .i64 0]) (t := 34) ?_; intro gb302 hg w63 hbox hb; have n0_ := aM (kB (kl BK298) hb); have n1_ := aM (kB (kl BK299) hb); have n2_ := aM (bS (bl) hb); have n3_ := aM (hbox); have n5_ := aM (gw (w := w) hg); have n6_ := aM (nb BK298 hg); have n7_ := aM (nb BK298 hg).symm; have n8_ := aM (nb BK299 hg); have n9_ := aM (nb BK299 hg).symm; clear BK298 BK299 HB; have BK298 := n0_; have BK299 := n1_; have HB := n2_; have BK302 := n3_; have GE302 := n5_; have NB298_302 := n6_; have NB302_298 := n7_; have NB299_302 := n8_; have NB302_299 := n9_; clear n0_ n1_ n2_ n3_ n5_ n6_ n7_ n8_ n9_ hb hbox hg; have hnb64 := NB302_298.out; have hnc64 := NB298_302.out; have hnb65 := NB302_299.out; have hnc65 := NB299_302.out; have hcz66_0 : w63.cell? ⟨gb302, 0, none⟩ = some (.int .i64 0) := (kC BK302.out 0).trans rfl; have hcz66_1 : w63.cell? ⟨gb302, 1, none⟩ = some (.int .i64 0) := (kC BK302.out 1).trans rfl; have hfz66_0 := kF BK302.out 0; have hfz66_1 := kF BK302.out 1))
           go_ret
           exact ⟨by first | rfl | (simp [errW_none, errW_some] <;> rfl) | (simp [*, errW_none, errW_some] <;> rfl), bl⟩
        ·rw [if_neg c22] at H
         exact absurd H (by simp)
       ·rw [if_neg c21] at H
        have c21b0 : decide (x6_2 < (l1_1.length : Int)) = false := decide_eq_false c21
        clear c21
        replace H := Option.bind_eq_some_iff.mp H
        obtain ⟨t305, A670, H⟩ := H
        try dsimp only at H
        have A67 := aM A670
        clear A670
        obtain rfl := Option.some.inj H
        have hnb68 := NB299_298.out
        have hnc68 := NB298_299.out
        have hcz69_0 : wr.cell? ⟨gb299, 0, none⟩ = some (.int .i64 a1_0) := (kC BK299.out 0).trans rfl
        have hcz69_1 : wr.cell? ⟨gb299, 1, none⟩ = some (.slice A1_1 l1_1.length c1_1) := (kC BK299.out 1).trans rfl
        have hcz69_2 : wr.cell? ⟨gb299, 2, none⟩ = some (.slice A1_2 l1_2.length c1_2) := (kC BK299.out 2).trans rfl
        have hfz69_0 := kF BK299.out 0
        have hfz69_1 := kF BK299.out 1
        have hfz69_2 := kF BK299.out 2
        go_wp2_with (first | ((with_reducible refine gate_callee (f := 78) rfl ?_); refine gL (some 56) Try.func78 #[.slice A1_2 l1_2.length c1_2] ?_; (with_reducible refine (mapmakerref06_Check.calls k2 _ _ l1_2 t305 _ ?side1 ?side2 A67.out).mono ?_); (case side1 => repeat (first | exact (Kd.C_below HR1_2.out HB.out) | (with_reducible refine cA ?_ _) | (with_reducible refine cN ?_ _) | (with_reducible refine cD ?_))); (case side2 => exact HC1_2.out); rintro e w70 ⟨rfl, hb⟩; refine ⟨_, rfl, ?_⟩; replace BK298 := aM (kB (kl BK298) hb); replace BK299 := aM (kB (kl BK299) hb); replace HB := aM (bS (bl) hb); (try clear hb); (try clear hb2); (try clear hk); (try clear hi)))
        go_ret
        exact ⟨by first | rfl | (simp [errW_none, errW_some] <;> rfl) | (simp [*, errW_none, errW_some] <;> rfl), bl⟩
end Go.Proofs.Ytgenbepicnbecaa.PAll
