-- out of a driver of this session's prover over the kit's print: Lean checks it
import Derived.Test.YtgenbepicnbecaaPAllx0
import Derived.Test.YtgenbepicnbecaaPAllx16
import Derived.Test.YtgenbepicnbecaaPAllx17
namespace Go.Proofs.Ytgenbepicnbecaa.PAll
open Go.Proofs.YtgenbepicnbecaaG Go.Shelf Go.Lib
open Go.RowKit Go.Proofs.YtgenbepicnbecaaW.PrintWords Go.Proofs.YtgenbepicnbecaaW.PrintLast Go.Proofs.YtgenbepicnbecaaW.PrintMore
attribute [local go_sem] max2_int min2_int max_two min_two max_three min_three max_four min_four   -- for this text's walks alone
set_option linter.unusedVariables false
set_option linter.unusedSimpArgs false
def mapmakerref14_way.l0 : Nat → Int → List (S39) → List (S45) → List (S51) → Int → List Int → List (S70) → Option (Int)
 | 0, _, _, _, _, _, _, _ => none
 | k + 1, x5, x251000, x251001, x251002, x252000, x252001, x252002 => if x5 < (x252001.length : Int) then (if 0 ≤ x5 then ((mapmakerref14_Node.f k x251000 x251001 x251002 (rd x252001 x5)).bind fun bt253 => (if bt253.2.2.2.2 = true then (mapmakerref14_way.l0 k (wrap64 (x5 + 1)) x251000 x251001 x251002 x252000 x252001 x252002) else (some 9))) else (none)) else ((mapmakerref06_Check.f k x252002).bind fun t261 => (some t261))
def mapmakerref14_way.f (k : Nat) (l0_0 : List (S39)) (l0_1 : List (S45)) (l0_2 : List (S51)) (a1_0 : Int) (l1_1 : List Int) (l1_2 : List (S70)) : Option (Int) := if (l1_1.length : Int) < 2 then (some 12) else (if (l1_1.length : Int) > 2000 then (some 5) else (mapmakerref14_way.l0 k 0 l0_0 l0_1 l0_2 a1_0 l1_1 l1_2))
theorem mapmakerref14_way.mono_l : ∀ k, (∀ y0 y1 y2 y3 y4 y5 y6, LeO (mapmakerref14_way.l0 k y0 y1 y2 y3 y4 y5 y6) (mapmakerref14_way.l0 (k + 1) y0 y1 y2 y3 y4 y5 y6))
 | 0 => fun _ _ _ _ _ _ _ r h => by simp [mapmakerref14_way.l0] at h
 | k + 1 => by
  have ih0 := mapmakerref14_way.mono_l k
  ·intro y0 y1 y2 y3 y4 y5 y6
   unfold mapmakerref14_way.l0
   repeat' first
   | (with_reducible exact ih0 _ _ _ _ _ _ _)
   | (with_reducible exact mapmakerref06_Check.mono _ _)
   | (with_reducible exact mapmakerref14_Node.mono _ _ _ _ _)
   | (with_reducible exact LeO.refl _)
   | (with_reducible exact LeO.none _)
   | (with_reducible refine LeO.ite ?_ ?_)
   | (with_reducible refine LeO.bind ?_ (fun _ => ?_))
   | exact ih0 _ _ _ _ _ _ _
   | exact mapmakerref06_Check.mono _ _
   | exact mapmakerref14_Node.mono _ _ _ _ _
   | exact LeO.none _
   | refine LeO.ite ?_ ?_
   | refine LeO.bind ?_ (fun _ => ?_)
theorem mapmakerref14_way.mono : ∀ a0 a1 a2 a3 a4 a5 k, LeO (mapmakerref14_way.f k a0 a1 a2 a3 a4 a5) (mapmakerref14_way.f (k + 1) a0 a1 a2 a3 a4 a5) := by
 intro a0 a1 a2 a3 a4 a5 k
 have ih0 := mapmakerref14_way.mono_l k
 unfold mapmakerref14_way.f
 repeat' first
   | (with_reducible exact ih0 _ _ _ _ _ _ _)
   | (with_reducible exact mapmakerref06_Check.mono _ _)
   | (with_reducible exact mapmakerref14_Node.mono _ _ _ _ _)
   | (with_reducible exact LeO.refl _)
   | (with_reducible exact LeO.none _)
   | (with_reducible refine LeO.ite ?_ ?_)
   | (with_reducible refine LeO.bind ?_ (fun _ => ?_))
   | exact ih0 _ _ _ _ _ _ _
   | exact mapmakerref06_Check.mono _ _
   | exact mapmakerref14_Node.mono _ _ _ _ _
   | exact LeO.none _
   | refine LeO.ite ?_ ?_
   | refine LeO.bind ?_ (fun _ => ?_)
def mapmakerref14_way.T8 : Bool × List (List Nat × List Nat) := (true, [([], []), ([], []), ([1], [1]), ([], []), ([2, 3], [2, 3]), ([4], [4]), ([0, 5], [0, 5]), ([6], [6]), ([7], [7]), ([7], [7]), ([], []), ([10, 8, 6, 0, 1, 2, 3, 4, 5, 6, 7, 8, 10], [8, 10]), ([9, 11, 0, 1, 2, 3, 4, 5, 6, 7, 8, 9, 10, 11], [9])])
def mapmakerref14_way.B8 : List Nat := [0, 0, 2, 0, 14, 30, 63, 127, 255, 255, 0, 1535, 4095]
theorem mapmakerref14_way.tab8 : rtab .any (opsOf Try.f42 8) = mapmakerref14_way.T8 := by kernel_rfl
theorem mapmakerref14_way.bits8 : waitsOk mapmakerref14_way.T8.2 mapmakerref14_way.B8 = true := by kernel_rfl
set_option maxHeartbeats 8000000 in
set_option maxRecDepth 100000 in
theorem mapmakerref14_way.calls (k : Nat) (A0_0 : Option Addr) (c0_0 : Nat) (l0_0 : List (S39)) (A0_1 : Option Addr) (c0_1 : Nat) (l0_1 : List (S45)) (A0_2 : Option Addr) (c0_2 : Nat) (l0_2 : List (S51)) (a1_0 : Int) (A1_1 : Option Addr) (c1_1 : Nat) (l1_1 : List Int) (A1_2 : Option Addr) (c1_2 : Nat) (l1_2 : List (S70)) (r : Int) (w : World) (hr0_0 : Kd.C k39 w A0_0 l0_0.length l0_0) (hc0_0 : l0_0.length ≤ c0_0) (hr0_1 : Kd.C k45 w A0_1 l0_1.length l0_1) (hc0_1 : l0_1.length ≤ c0_1) (hr0_2 : Kd.C k51 w A0_2 l0_2.length l0_2) (hc0_2 : l0_2.length ≤ c0_2) (hr1_1 : Kd.C (Kd.int .i64) w A1_1 l1_1.length l1_1) (hc1_1 : l1_1.length ≤ c1_1) (hr1_2 : Kd.C k70 w A1_2 l1_2.length l1_2) (hc1_2 : l1_2.length ≤ c1_2) (h : mapmakerref14_way.f k l0_0 l0_1 l0_2 a1_0 l1_1 l1_2 = some r) :
  Calls Try.prog 42 #[.agg #[.slice A0_0 l0_0.length c0_0, .slice A0_1 l0_1.length c0_1, .slice A0_2 l0_2.length c0_2], .agg #[.int .i64 a1_0, .slice A1_1 l1_1.length c1_1, .slice A1_2 l1_2.length c1_2]] w fun e w' => e = .returned (.int .i64 r) ∧ Below w.heap.size w w' := by
 have hu26 := Try.underlying26
 have hu45 := Try.underlying45
 have hu39 := Try.underlying39
 have HR0_0 := aM hr0_0
 have HC0_0 := aM hc0_0
 clear hr0_0 hc0_0
 have HR0_1 := aM hr0_1
 have HC0_1 := aM hc0_1
 clear hr0_1 hc0_1
 have HR0_2 := aM hr0_2
 have HC0_2 := aM hc0_2
 clear hr0_2 hc0_2
 have HR1_1 := aM hr1_1
 have HC1_1 := aM hc1_1
 clear hr1_1 hc1_1
 have HR1_2 := aM hr1_2
 have HC1_2 := aM hc1_2
 clear hr1_2 hc1_2
 have HB := aM (Below.refl w.heap.size w)
 have H : (if (l1_1.length : Int) < 2 then (some 12) else (if (l1_1.length : Int) > 2000 then (some 5) else (mapmakerref14_way.l0 k 0 l0_0 l0_1 l0_2 a1_0 l1_1 l1_2))) = some r := h
 clear h
 by_cases c3 : (l1_1.length : Int) < 2
 ·rw [if_pos c3] at H
  have c3b0 : decide ((l1_1.length : Int) < 2) = true := decide_eq_true c3
  have c3b1 : decide (l1_1.length < 2) = true := decide_eq_true (by omega)
  clear c3
  obtain rfl := Option.some.inj H
  go_enter Try.func42, Try.ntmps42
  go_wp2_with (first | ((with_reducible refine gate_dst (N := 2) rfl ?_); refine bx (N := 2) (cs := #[.slice A0_0 l0_0.length c0_0, .slice A0_1 l0_1.length c0_1, .slice A0_2 l0_2.length c0_2]) (t := 26) ?_; intro gb250 hg w4 hbox hb; have n0_ := aM (bS (bl) hb); have n1_ := aM (hbox); have n2_ := aM (gw (w := w) hg); have n3_ := aM (gw (w := w) hg); clear HB; have HB := n0_; have BK250 := n1_; have GW250 := n2_; have GE250 := n3_; clear n0_ n1_ n2_ n3_ hb hbox hg) | ((with_reducible refine gate_dst (N := 3) rfl ?_); refine bx (N := 3) (cs := #[.int .i64 a1_0, .slice A1_1 l1_1.length c1_1, .slice A1_2 l1_2.length c1_2]) (t := 45) ?_; intro gb251 hg w5 hbox hb; have n0_ := aM (kB (kl BK250) hb); have n1_ := aM (bS (bl) hb); have n2_ := aM (hbox); have n3_ := aM (gw (w := w) hg); have n4_ := aM (gw (w := w) hg); have n5_ := aM (nb BK250 hg); have n6_ := aM (nb BK250 hg).symm; clear BK250 HB; have BK250 := n0_; have HB := n1_; have BK251 := n2_; have GW251 := n3_; have GE251 := n4_; have NB250_251 := n5_; have NB251_250 := n6_; clear n0_ n1_ n2_ n3_ n4_ n5_ n6_ hb hbox hg; have hnb6 := NB251_250.out; have hnc6 := NB250_251.out; have hcz7_0 : w5.cell? ⟨gb251, 0, none⟩ = some (.int .i64 a1_0) := (kC BK251.out 0).trans rfl; have hcz7_1 : w5.cell? ⟨gb251, 1, none⟩ = some (.slice A1_1 l1_1.length c1_1) := (kC BK251.out 1).trans rfl; have hcz7_2 : w5.cell? ⟨gb251, 2, none⟩ = some (.slice A1_2 l1_2.length c1_2) := (kC BK251.out 2).trans rfl; have hfz7_0 := kF BK251.out 0; have hfz7_1 := kF BK251.out 1; have hfz7_2 := kF BK251.out 2))
  go_ret
  exact ⟨by first | rfl | (simp [errW_none, errW_some] <;> rfl) | (simp [*, errW_none, errW_some] <;> rfl), bl⟩
 ·rw [if_neg c3] at H
  have c3b0 : decide ((l1_1.length : Int) < 2) = false := decide_eq_false c3
  have c3b1 : decide (l1_1.length < 2) = false := decide_eq_false (by omega)
  clear c3
  by_cases c8 : (l1_1.length : Int) > 2000
  ·rw [if_pos c8] at H
   have c8b0 : decide (2000 < (l1_1.length : Int)) = true := decide_eq_true c8
   have c8b1 : decide (2000 < l1_1.length) = true := decide_eq_true (by omega)
   clear c8
   obtain rfl := Option.some.inj H
   go_enter Try.func42, Try.ntmps42
   go_wp2_with (first | ((with_reducible refine gate_dst (N := 2) rfl ?_); refine bx (N := 2) (cs := #[.slice A0_0 l0_0.length c0_0, .slice A0_1 l0_1.length c0_1, .slice A0_2 l0_2.length c0_2]) (t := 26) ?_; intro gb250 hg w9 hbox hb; have n0_ := aM (bS (bl) hb); have n1_ := aM (hbox); have n2_ := aM (gw (w := w) hg); have n3_ := aM (gw (w := w) hg); clear HB; have HB := n0_; have BK250 := n1_; have GW250 := n2_; have GE250 := n3_; clear n0_ n1_ n2_ n3_ hb hbox hg) | ((with_reducible refine gate_dst (N := 3) rfl ?_); refine bx (N := 3) (cs := #[.int .i64 a1_0, .slice A1_1 l1_1.length c1_1, .slice A1_2 l1_2.length c1_2]) (t := 45) ?_; intro gb251 hg w10 hbox hb; have n0_ := aM (kB (kl BK250) hb); have n1_ := aM (bS (bl) hb); have n2_ := aM (hbox); have n3_ := aM (gw (w := w) hg); have n4_ := aM (gw (w := w) hg); have n5_ := aM (nb BK250 hg); have n6_ := aM (nb BK250 hg).symm; clear BK250 HB; have BK250 := n0_; have HB := n1_; have BK251 := n2_; have GW251 := n3_; have GE251 := n4_; have NB250_251 := n5_; have NB251_250 := n6_; clear n0_ n1_ n2_ n3_ n4_ n5_ n6_ hb hbox hg; have hnb11 := NB251_250.out; have hnc11 := NB250_251.out; have hcz12_0 : w10.cell? ⟨gb251, 0, none⟩ = some (.int .i64 a1_0) := (kC BK251.out 0).trans rfl; have hcz12_1 : w10.cell? ⟨gb251, 1, none⟩ = some (.slice A1_1 l1_1.length c1_1) := (kC BK251.out 1).trans rfl; have hcz12_2 : w10.cell? ⟨gb251, 2, none⟩ = some (.slice A1_2 l1_2.length c1_2) := (kC BK251.out 2).trans rfl; have hfz12_0 := kF BK251.out 0; have hfz12_1 := kF BK251.out 1; have hfz12_2 := kF BK251.out 2))
   go_ret
   exact ⟨by first | rfl | (simp [errW_none, errW_some] <;> rfl) | (simp [*, errW_none, errW_some] <;> rfl), bl⟩
  ·rw [if_neg c8] at H
   have c8b0 : decide (2000 < (l1_1.length : Int)) = false := decide_eq_false c8
   have c8b1 : decide (2000 < l1_1.length) = false := decide_eq_false (by omega)
   clear c8
   have H' := aM H
   clear H
   go_enter Try.func42, Try.ntmps42
   go_wp2_with (first | ((with_reducible refine gate_dst (N := 2) rfl ?_); refine bx (N := 2) (cs := #[.slice A0_0 l0_0.length c0_0, .slice A0_1 l0_1.length c0_1, .slice A0_2 l0_2.length c0_2]) (t := 26) ?_; intro gb250 hg w13 hbox hb; have n0_ := aM (bS (bl) hb); have n1_ := aM (hbox); have n2_ := aM (gw (w := w) hg); have n3_ := aM (gw (w := w) hg); clear HB; have HB := n0_; have BK250 := n1_; have GW250 := n2_; have GE250 := n3_; clear n0_ n1_ n2_ n3_ hb hbox hg) | ((with_reducible refine gate_dst (N := 3) rfl ?_); refine bx (N := 3) (cs := #[.int .i64 a1_0, .slice A1_1 l1_1.length c1_1, .slice A1_2 l1_2.length c1_2]) (t := 45) ?_; intro gb251 hg w14 hbox hb; have n0_ := aM (kB (kl BK250) hb); have n1_ := aM (bS (bl) hb); have n2_ := aM (hbox); have n3_ := aM (gw (w := w) hg); have n4_ := aM (gw (w := w) hg); have n5_ := aM (nb BK250 hg); have n6_ := aM (nb BK250 hg).symm; clear BK250 HB; have BK250 := n0_; have HB := n1_; have BK251 := n2_; have GW251 := n3_; have GE251 := n4_; have NB250_251 := n5_; have NB251_250 := n6_; clear n0_ n1_ n2_ n3_ n4_ n5_ n6_ hb hbox hg; have hnb15 := NB251_250.out; have hnc15 := NB250_251.out; have hcz16_0 : w14.cell? ⟨gb251, 0, none⟩ = some (.int .i64 a1_0) := (kC BK251.out 0).trans rfl; have hcz16_1 : w14.cell? ⟨gb251, 1, none⟩ = some (.slice A1_1 l1_1.length c1_1) := (kC BK251.out 1).trans rfl; have hcz16_2 : w14.cell? ⟨gb251, 2, none⟩ = some (.slice A1_2 l1_2.length c1_2) := (kC BK251.out 2).trans rfl; have hfz16_0 := kF BK251.out 0; have hfz16_1 := kF BK251.out 1; have hfz16_2 := kF BK251.out 2))
   go_loopg [5] k (fun kq v5 w' => ∃ (x5_1 : Int), v5 = .int .i64 x5_1 ∧ Aside0 (mapmakerref14_way.l0 kq x5_1 l0_0 l0_1 l0_2 a1_0 l1_1 l1_2 = some r) ∧ Aside0 (kq ≤ k) ∧ Aside0 (w'.heap[gb250]? = some (.cells #[(.slice A0_0 l0_0.length c0_0), (.slice A0_1 l0_1.length c0_1), (.slice A0_2 l0_2.length c0_2)] 26 (0, 0))) ∧ Aside0 (w'.heap[gb251]? = some (.cells #[.int .i64 a1_0, (.slice A1_1 l1_1.length c1_1), (.slice A1_2 l1_2.length c1_2)] 45 (0, 0))) ∧ Aside0 (Below w.heap.size w w'))
   case atStart => exact ⟨(0), (by first | rfl | (simp; done) | (simp [*]; done)), H', ⟨Nat.le_refl _⟩, ⟨by (with_reducible repeat (first | refine kN ?_ _ | refine kD ?_ | refine kA ?_ _)); exact BK250.out⟩, ⟨by (with_reducible repeat (first | refine kN ?_ _ | refine kD ?_ | refine kA ?_ _)); exact BK251.out⟩, ⟨bl⟩⟩
   case round =>
    clear H'
    try clear c1
    try clear p2
    try clear c3
    try clear c3b0
    try clear c3b1
    try clear c4
    try clear c6
    try clear c8
    try clear c8b0
    try clear c8b1
    try clear c11
    try clear c15
    try clear hcz12_0 hcz12_1 hcz12_2 hfz12_0 hfz12_1 hfz12_2
    try clear hcz16_0 hcz16_1 hcz16_2 hfz16_0 hfz16_1 hfz16_2
    try clear hcz7_0 hcz7_1 hcz7_2 hfz7_0 hfz7_1 hfz7_2
    obtain ⟨x5_1, rfl, HA, HK1, BK250, BK251, HB⟩ := hrel
    cases gk with
    | zero => exact absurd HA.out (by simp [mapmakerref14_way.l0])
    | succ k1 =>
     have H := HA.out
     clear HA
     simp only [mapmakerref14_way.l0] at H
     by_cases c17 : x5_1 < (l1_1.length : Int)
     ·rw [if_pos c17] at H
      have c17b0 : decide (x5_1 < (l1_1.length : Int)) = true := decide_eq_true c17
      clear c17
      by_cases c18 : 0 ≤ x5_1
      ·rw [if_pos c18] at H
       have c18b0 : decide (0 ≤ x5_1) = true := decide_eq_true c18
       clear c18
       replace H := Option.bind_eq_some_iff.mp H
       obtain ⟨⟨t253, t254, t255, t256, t259⟩, A190, H⟩ := H
       replace H : (if t259 = true then (mapmakerref14_way.l0 k1 (wrap64 (x5_1 + 1)) l0_0 l0_1 l0_2 a1_0 l1_1 l1_2) else (some 9)) = some r := H
       have A19 := aM A190
       clear A190
       by_cases c20 : t259 = true
       ·subst c20
        have H1 : (mapmakerref14_way.l0 k1 (wrap64 (x5_1 + 1)) l0_0 l0_1 l0_2 a1_0 l1_1 l1_2) = some r := by rw [if_pos rfl] at H; exact H
        clear H
        have H := H1
        clear H1
        have H' := aM H
        clear H
        have hnb21 := NB251_250.out
        have hnc21 := NB250_251.out
        have hcz22_0 : wr.cell? ⟨gb251, 0, none⟩ = some (.int .i64 a1_0) := (kC BK251.out 0).trans rfl
        have hcz22_1 : wr.cell? ⟨gb251, 1, none⟩ = some (.slice A1_1 l1_1.length c1_1) := (kC BK251.out 1).trans rfl
        have hcz22_2 : wr.cell? ⟨gb251, 2, none⟩ = some (.slice A1_2 l1_2.length c1_2) := (kC BK251.out 2).trans rfl
        have hfz22_0 := kF BK251.out 0
        have hfz22_1 := kF BK251.out 1
        have hfz22_2 := kF BK251.out 2
        try go_wp2
        replace BK250 := aM (kD BK250.out)
        replace BK251 := aM (kD BK251.out)
        replace HB := aM (bD HB.out)
        have p252 : 0 ≤ (x5_1 : Int) := oT
        have q252 : x5_1 < (l1_1.length : Int) := oT
        obtain ⟨ad252, e252, hx252_0⟩ := Kd.at_int HR1_1.out x5_1 p252 q252
        have hw252_0 := hx252_0
        cases e252
        replace hx252_0 := hs HB.out hx252_0
        replace p252 := eq_true p252
        replace q252 := eq_true q252
        refine start_ (n := 13) (S := fun w' => w'.cell? ⟨gb250, 0, none⟩ = some (.slice A0_0 l0_0.length c0_0) ∧ w'.cell? ⟨gb250, 1, none⟩ = some (.slice A0_1 l0_1.length c0_1) ∧ w'.cell? ⟨gb250, 2, none⟩ = some (.slice A0_2 l0_2.length c0_2) ∧ w'.cell? ⟨gb251, 0, none⟩ = some (.int .i64 a1_0) ∧ w'.cell? ⟨gb251, 1, none⟩ = some (.slice (some ad252) l1_1.length c1_1) ∧ w'.cell? ⟨gb251, 2, none⟩ = some (.slice A1_2 l1_2.length c1_2) ∧ w'.cell? (ad252.add (x5_1).toNat) = some (.int .i64 (rd l1_1 x5_1))) (ds := []) #[false, false, false, false, false, false, false, false, false, false, false, false, false] (by kernel_rfl) rfl rfl ⟨(kC BK250.out 0).trans rfl, (kC BK250.out 1).trans rfl, (kC BK250.out 2).trans rfl, (kC BK251.out 0).trans rfl, (kC BK251.out 1).trans rfl, (kC BK251.out 2).trans rfl, ((HB.out.cell (World.block_lt_of_cell? w _ hw252_0)).trans hw252_0)⟩ (fun hHeld => ?_); refine with_tabW mapmakerref14_way.tab8 mapmakerref14_way.bits8 (fun HT_ HW_ => ?_)
        generalize wr.drew = w23 at BK250 BK251 HB hx252_0 hHeld ⊢
        refine pure_ (i := 1) (N := some 25) (v := ?_) (a' := ?_) (ba 13 2) rfl rfl (any_of HT_.out (by kernel_rfl)) (fun _ _ _ h => h) (Or.inl ⟨by rfl, ?_⟩) ?_ ?_
        rotate_left
        ·intro w'
         go_simp
         with_reducible rfl
        rotate_left
        ·simp only [Act.put, sA, sB, sC, i64_w, i32_w]
         rfl
        refine pure_ (i := 3) (N := some 27) (v := ?_) (a' := ?_) (ba 13 10) rfl rfl (any_of HT_.out (by kernel_rfl)) (fun _ _ _ h => h) (Or.inl ⟨by rfl, ?_⟩) ?_ ?_
        rotate_left
        ·intro w'
         go_simp
         with_reducible rfl
        rotate_left
        ·simp only [Act.put, sA, sB, sC, i64_w, i32_w]
         rfl
        refine take_ (i := 0) (N := some 24) (v := ?_) (a' := ?_) (ba 13 11) rfl rfl (take_ofW HT_.out HW_.out (by kernel_rfl)) (fun _ _ _ h => h) (Or.inl ⟨by rfl, ?_⟩) hHeld ?_ ?_
        rotate_left
        ·rintro w' ⟨s0, s1, s2, s3, s4, s5, s6⟩
         go_simp
         with_reducible rfl
        rotate_left
        ·simp only [Act.put, sA, sB, sC, i64_w, i32_w]
         rfl
        refine take_ (i := 2) (N := some 26) (v := ?_) (a' := ?_) (ba 13 15) rfl rfl (take_ofW HT_.out HW_.out (by kernel_rfl)) (fun _ _ _ h => h) (Or.inl ⟨by rfl, ?_⟩) hHeld ?_ ?_
        rotate_left
        ·rintro w' ⟨s0, s1, s2, s3, s4, s5, s6⟩
         go_simp
         with_reducible rfl
        rotate_left
        ·simp only [Act.put, sA, sB, sC, i64_w, i32_w]
         rfl
        refine pure_ (i := 4) (N := some 28) (v := ?_) (a' := ?_) (ba 13 31) rfl rfl (any_of HT_.out (by kernel_rfl)) (fun _ _ _ h => h) (Or.inl ⟨by rfl, ?_⟩) ?_ ?_
        rotate_left
        ·intro w'
         go_simp
         with_reducible rfl
        rotate_left
        ·simp only [Act.put, sA, sB, sC, i64_w, i32_w]
         rfl
        refine take_ (i := 5) (N := some 29) (v := ?_) (a' := ?_) (ba 13 63) rfl rfl (take_ofW HT_.out HW_.out (by kernel_rfl)) (fun _ _ _ h => h) (Or.inl ⟨by rfl, ?_⟩) hHeld ?_ ?_
        rotate_left
        ·rintro w' ⟨s0, s1, s2, s3, s4, s5, s6⟩
         go_simp
         with_reducible rfl
        rotate_left
        ·simp only [Act.put, sA, sB, sC, i64_w, i32_w]
         rfl
        refine join_ (σ := Value × Nat) 2 #[true, true, true, true, true, true, true, true, true, true, true, false, false] (fun s_ => [(30, .tuple #[.agg #[.int .i64 t253, .int .i64 t254, .int .i64 t255, s_.1], .bool true]), (6, .pointer (some ⟨s_.2, 0, none⟩)), (23, .tuple #[.agg #[.int .i64 t253, .int .i64 t254, .int .i64 t255, s_.1], .bool true]), (31, .agg #[.int .i64 t253, .int .i64 t254, .int .i64 t255, s_.1]), (32, .bool true)]) (fun s_ w' => (w'.cell? ⟨gb250, 0, none⟩ = some (.slice A0_0 l0_0.length c0_0) ∧ w'.cell? ⟨gb250, 1, none⟩ = some (.slice A0_1 l0_1.length c0_1) ∧ w'.cell? ⟨gb250, 2, none⟩ = some (.slice A0_2 l0_2.length c0_2) ∧ w'.cell? ⟨gb251, 0, none⟩ = some (.int .i64 a1_0) ∧ w'.cell? ⟨gb251, 1, none⟩ = some (.slice (some ad252) l1_1.length c1_1) ∧ w'.cell? ⟨gb251, 2, none⟩ = some (.slice A1_2 l1_2.length c1_2) ∧ w'.cell? (ad252.add (x5_1).toNat) = some (.int .i64 (rd l1_1 x5_1))) ∧ (Kd.V k70 70 w' w.heap.size (fun k_ => k_ ≠ gb250 ∧ k_ ≠ gb251 ∧ k_ ≠ s_.2) s_.1 t256) ∧ (w'.heap[gb250]? = some (.cells #[.slice A0_0 l0_0.length c0_0, .slice A0_1 l0_1.length c0_1, .slice A0_2 l0_2.length c0_2] 26 (0, 0))) ∧ (w'.heap[gb251]? = some (.cells #[.int .i64 a1_0, .slice (some ad252) l1_1.length c1_1, .slice A1_2 l1_2.length c1_2] 45 (0, 0))) ∧ (w'.heap[s_.2]? = some (.cells #[.int .i64 0, .int .i64 0, .int .i64 0, .slice none 0 0] 39 (0, 0))) ∧ (w.heap.size ≤ s_.2) ∧ (w.heap.size ≤ s_.2) ∧ (gb250 ≠ s_.2) ∧ (s_.2 ≠ gb250) ∧ (gb251 ≠ s_.2) ∧ (s_.2 ≠ gb251) ∧ (Below w.heap.size w w')) ?_ ?_
        rotate_left
        ·intro hCont
         refine two_ (i := 6) (j := 10) (Ni := some 30) (Nj := some 6) #[true, true, true, true, true, true, true, false, false, false, false, false, false] #[true, true, true, true, true, true, false, false, false, false, true, false, false] rfl rfl rfl rfl (two_of HT_.out (by kernel_rfl)) (by decide) (by decide) (fun K hK => ?_) (fun K hK => ?_)
         ·skip
          refine goes_ Try.func13 (by kernel_rfl) rfl #[.agg #[.slice A0_0 l0_0.length c0_0, .slice A0_1 l0_1.length c0_1, .slice A0_2 l0_2.length c0_2], .int .i64 (rd l1_1 x5_1)] (by rfl) rfl rfl (by (try simp only [List.map_toArray, List.map_cons, List.map_nil]); first | done | rfl | (simp only [List.length_drop, List.length_take]; rfl)) ?_
          with_reducible refine (mapmakerref14_Node.calls k1 (fun k_ => k_ < w.heap.size) _ _ l0_0 _ _ l0_1 _ _ l0_2 (rd l1_1 x5_1) t253 t254 t255 t256 true _ ?side1 ?side2 ?side3 ?side4 ?side5 A19.out).mono ?_
          (case side1 => exact Kd.V_mk HC0_0.out (Kd.F_below (Kd.C_F k39_heap HR0_0.out) (bl)))
          (case side2 => repeat (first | exact (Kd.C_below HR0_1.out HB.out) | (with_reducible refine cA ?_ _) | (with_reducible refine cN ?_ _) | (with_reducible refine cD ?_)))
          (case side3 => exact HC0_1.out)
          (case side4 => repeat (first | exact (Kd.C_below HR0_2.out HB.out) | (with_reducible refine cA ?_ _) | (with_reducible refine cN ?_ _) | (with_reducible refine cD ?_)))
          (case side5 => exact HC0_2.out)
          rintro e w24 ⟨v257, rfl, ho0, hb⟩
          refine ⟨_, rfl, ?_⟩
          have HO258 := aM (Kd.V_lower (Kd.V_mono (ok' := fun k_ => k_ ≠ gb250 ∧ k_ ≠ gb251) ho0 (fun k_ hk_ => ⟨Or.elim hk_ (fun hs_ => fun e_ => Nat.not_le.2 hs_ (by rw [e_]; exact GW250.out)) (fun hn_ => (Kd.freshB (g := gb250) (o := .cells #[.slice A0_0 l0_0.length c0_0, .slice A0_1 l0_1.length c0_1, .slice A0_2 l0_2.length c0_2] 26 (0, 0)) (kl BK250) k_ hn_)), Or.elim hk_ (fun hs_ => fun e_ => Nat.not_le.2 hs_ (by rw [e_]; exact GW251.out)) (fun hn_ => (Kd.freshB (g := gb251) (o := .cells #[.int .i64 a1_0, .slice (some ad252) l1_1.length c1_1, .slice A1_2 l1_2.length c1_2] 45 (0, 0)) (kl BK251) k_ hn_))⟩)) (below_size (bl)))
          replace BK250 := aM (kB (kl BK250) hb)
          replace BK251 := aM (kB (kl BK251) hb)
          replace HB := aM (bS (bl) hb)
          (try clear hb)
          (try clear hb2)
          (try clear hk)
          (try clear hi)
          (try clear ho0)
          refine hK.out _ _ ⟨(kC BK250.out 0).trans rfl, (kC BK250.out 1).trans rfl, (kC BK250.out 2).trans rfl, (kC BK251.out 0).trans rfl, (kC BK251.out 1).trans rfl, (kC BK251.out 2).trans rfl, ((HB.out.cell (World.block_lt_of_cell? w _ hw252_0)).trans hw252_0)⟩ (fun hHeld => ?_)
          clear hK K
          refine norm_ (a' := ?_) ?_ ?_
          rotate_left
          ·show Act.put _ (some 30) _ = _
           simp only [Act.put, sA, sB, sC, i64_w, i32_w]
           rfl
          refine pure_ (i := 7) (N := some 23) (v := ?_) (a' := ?_) (ba 13 255) rfl rfl (any_of HT_.out (by kernel_rfl)) (fun _ _ _ h => h) (Or.inl ⟨by rfl, ?_⟩) ?_ ?_
          rotate_left
          ·intro w'
           go_simp
           with_reducible rfl
          rotate_left
          ·simp only [Act.put, sA, sB, sC, i64_w, i32_w]
           rfl
          refine pure_ (i := 8) (N := some 31) (v := ?_) (a' := ?_) (ba 13 511) rfl rfl (any_of HT_.out (by kernel_rfl)) (fun _ _ _ h => h) (Or.inl ⟨by rfl, ?_⟩) ?_ ?_
          rotate_left
          ·intro w'
           go_simp
           with_reducible rfl
          rotate_left
          ·simp only [Act.put, sA, sB, sC, i64_w, i32_w]
           rfl
          refine pure_ (i := 9) (N := some 32) (v := ?_) (a' := ?_) (ba 13 1023) rfl rfl (any_of HT_.out (by kernel_rfl)) (fun _ _ _ h => h) (Or.inl ⟨by rfl, ?_⟩) ?_ ?_
          rotate_left
          ·intro w'
           go_simp
           with_reducible rfl
          rotate_left
          ·simp only [Act.put, sA, sB, sC, i64_w, i32_w]
           rfl
          refine one_ (i := 10) (N := some 6) (ba 13 2047) rfl rfl (one_of HT_.out (by kernel_rfl)) (by decide) (fun K hK => ?_)
          refine box_step ?hg (N := 6) ?hd (cs := #[.int .i64 0, .int .i64 0, .int .i64 0, .slice none 0 0]) (t := 39) ?hr ?_; (case hd => rfl); (case hg => rfl); (case hr => first | (go_simp; done) | (go_simp; rfl))
          intro gb260 hg w25 hbox hb
          have n0_ := aM (Kd.V_below (Kd.V_elderB (by (with_reducible repeat (first | apply Kd.V_alloc | apply Kd.V_drewN | apply Kd.V_drew)); exact HO258.out) gb260 (Nat.le_of_eq hg.symm)) hb)
          have n1_ := aM (kB (kl BK250) hb)
          have n2_ := aM (kB (kl BK251) hb)
          have n3_ := aM (bS (bl) hb)
          have n4_ := aM (hbox)
          have n5_ := aM (gw (w := w) hg)
          have n6_ := aM (gw (w := w) hg)
          have n7_ := aM (nb BK250 hg)
          have n8_ := aM (nb BK250 hg).symm
          have n9_ := aM (nb BK251 hg)
          have n10_ := aM (nb BK251 hg).symm
          clear HO258 BK250 BK251 HB
          have HO258 := n0_
          have BK250 := n1_
          have BK251 := n2_
          have HB := n3_
          have BK260 := n4_
          have GW260 := n5_
          have GE260 := n6_
          have NB250_260 := n7_
          have NB260_250 := n8_
          have NB251_260 := n9_
          have NB260_251 := n10_
          clear n0_ n1_ n2_ n3_ n4_ n5_ n6_ n7_ n8_ n9_ n10_ hb hbox hg
          refine hK.out _ _ ⟨(kC BK250.out 0).trans rfl, (kC BK250.out 1).trans rfl, (kC BK250.out 2).trans rfl, (kC BK251.out 0).trans rfl, (kC BK251.out 1).trans rfl, (kC BK251.out 2).trans rfl, ((HB.out.cell (World.block_lt_of_cell? w _ hw252_0)).trans hw252_0)⟩ (fun hHeld => ?_)
          clear hK K
          refine norm_ (a' := ?_) ?_ ?_
          rotate_left
          ·show Act.put _ (some 6) _ = _
           simp only [Act.put, sA, sB, sC, i64_w, i32_w]
           rfl
          exact norm_ (by simp only [putAll, Act.put, sA, sB, sC]) (hCont (v257, gb260) _ ⟨hHeld, (by (with_reducible repeat (first | apply Kd.V_alloc | apply Kd.V_drewN | apply Kd.V_drew)); exact Kd.V_mono HO258.out (fun _ hk => ⟨hk.1.1, ⟨hk.1.2, hk.2⟩⟩)), (kl BK250), (kl BK251), (kl BK260), GW260.out, GE260.out, NB250_260.out, NB260_250.out, NB251_260.out, NB260_251.out, (bl)⟩)
         ·skip
          refine box_step ?hg (N := 6) ?hd (cs := #[.int .i64 0, .int .i64 0, .int .i64 0, .slice none 0 0]) (t := 39) ?hr ?_; (case hd => rfl); (case hg => rfl); (case hr => first | (go_simp; done) | (go_simp; rfl))
          intro gb260 hg w24 hbox hb
          have n0_ := aM (kB (kl BK250) hb)
          have n1_ := aM (kB (kl BK251) hb)
          have n2_ := aM (bS (bl) hb)
          have n3_ := aM (hbox)
          have n4_ := aM (gw (w := w) hg)
          have n5_ := aM (gw (w := w) hg)
          have n6_ := aM (nb BK250 hg)
          have n7_ := aM (nb BK250 hg).symm
          have n8_ := aM (nb BK251 hg)
          have n9_ := aM (nb BK251 hg).symm
          clear BK250 BK251 HB
          have BK250 := n0_
          have BK251 := n1_
          have HB := n2_
          have BK260 := n3_
          have GW260 := n4_
          have GE260 := n5_
          have NB250_260 := n6_
          have NB260_250 := n7_
          have NB251_260 := n8_
          have NB260_251 := n9_
          clear n0_ n1_ n2_ n3_ n4_ n5_ n6_ n7_ n8_ n9_ hb hbox hg
          refine hK.out _ _ ⟨(kC BK250.out 0).trans rfl, (kC BK250.out 1).trans rfl, (kC BK250.out 2).trans rfl, (kC BK251.out 0).trans rfl, (kC BK251.out 1).trans rfl, (kC BK251.out 2).trans rfl, ((HB.out.cell (World.block_lt_of_cell? w _ hw252_0)).trans hw252_0)⟩ (fun hHeld => ?_)
          clear hK K
          refine norm_ (a' := ?_) ?_ ?_
          rotate_left
          ·show Act.put _ (some 6) _ = _
           simp only [Act.put, sA, sB, sC, i64_w, i32_w]
           rfl
          refine one_ (i := 6) (N := some 30) (ba 13 1151) rfl rfl (one_of HT_.out (by kernel_rfl)) (by decide) (fun K hK => ?_)
          refine goes_ Try.func13 (by kernel_rfl) rfl #[.agg #[.slice A0_0 l0_0.length c0_0, .slice A0_1 l0_1.length c0_1, .slice A0_2 l0_2.length c0_2], .int .i64 (rd l1_1 x5_1)] (by rfl) rfl rfl (by (try simp only [List.map_toArray, List.map_cons, List.map_nil]); first | done | rfl | (simp only [List.length_drop, List.length_take]; rfl)) ?_
          with_reducible refine (mapmakerref14_Node.calls k1 (fun k_ => k_ < w.heap.size) _ _ l0_0 _ _ l0_1 _ _ l0_2 (rd l1_1 x5_1) t253 t254 t255 t256 true _ ?side1 ?side2 ?side3 ?side4 ?side5 A19.out).mono ?_
          (case side1 => exact Kd.V_mk HC0_0.out (Kd.F_below (Kd.C_F k39_heap HR0_0.out) (bl)))
          (case side2 => repeat (first | exact (Kd.C_below HR0_1.out HB.out) | (with_reducible refine cA ?_ _) | (with_reducible refine cN ?_ _) | (with_reducible refine cD ?_)))
          (case side3 => exact HC0_1.out)
          (case side4 => repeat (first | exact (Kd.C_below HR0_2.out HB.out) | (with_reducible refine cA ?_ _) | (with_reducible refine cN ?_ _) | (with_reducible refine cD ?_)))
          (case side5 => exact HC0_2.out)
          rintro e w25 ⟨v257, rfl, ho0, hb⟩
          refine ⟨_, rfl, ?_⟩
          have HO258 := aM (Kd.V_lower (Kd.V_mono (ok' := fun k_ => k_ ≠ gb250 ∧ k_ ≠ gb251 ∧ k_ ≠ gb260) ho0 (fun k_ hk_ => ⟨Or.elim hk_ (fun hs_ => fun e_ => Nat.not_le.2 hs_ (by rw [e_]; exact GW250.out)) (fun hn_ => (Kd.freshB (g := gb250) (o := .cells #[.slice A0_0 l0_0.length c0_0, .slice A0_1 l0_1.length c0_1, .slice A0_2 l0_2.length c0_2] 26 (0, 0)) (kl BK250) k_ hn_)), Or.elim hk_ (fun hs_ => fun e_ => Nat.not_le.2 hs_ (by rw [e_]; exact GW251.out)) (fun hn_ => (Kd.freshB (g := gb251) (o := .cells #[.int .i64 a1_0, .slice (some ad252) l1_1.length c1_1, .slice A1_2 l1_2.length c1_2] 45 (0, 0)) (kl BK251) k_ hn_)), Or.elim hk_ (fun hs_ => fun e_ => Nat.not_le.2 hs_ (by rw [e_]; exact GW260.out)) (fun hn_ => (Kd.freshB (g := gb260) (o := .cells #[.int .i64 0, .int .i64 0, .int .i64 0, .slice none 0 0] 39 (0, 0)) (kl BK260) k_ hn_))⟩)) (below_size (bl)))
          replace BK250 := aM (kB (kl BK250) hb)
          replace BK251 := aM (kB (kl BK251) hb)
          replace BK260 := aM (kB (kl BK260) hb)
          replace HB := aM (bS (bl) hb)
          (try clear hb)
          (try clear hb2)
          (try clear hk)
          (try clear hi)
          (try clear ho0)
          refine hK.out _ _ ⟨(kC BK250.out 0).trans rfl, (kC BK250.out 1).trans rfl, (kC BK250.out 2).trans rfl, (kC BK251.out 0).trans rfl, (kC BK251.out 1).trans rfl, (kC BK251.out 2).trans rfl, ((HB.out.cell (World.block_lt_of_cell? w _ hw252_0)).trans hw252_0)⟩ (fun hHeld => ?_)
          clear hK K
          refine norm_ (a' := ?_) ?_ ?_
          rotate_left
          ·show Act.put _ (some 30) _ = _
           simp only [Act.put, sA, sB, sC, i64_w, i32_w]
           rfl
          refine pure_ (i := 7) (N := some 23) (v := ?_) (a' := ?_) (ba 13 1279) rfl rfl (any_of HT_.out (by kernel_rfl)) (fun _ _ _ h => h) (Or.inl ⟨by rfl, ?_⟩) ?_ ?_
          rotate_left
          ·intro w'
           go_simp
           with_reducible rfl
          rotate_left
          ·simp only [Act.put, sA, sB, sC, i64_w, i32_w]
           rfl
          refine pure_ (i := 8) (N := some 31) (v := ?_) (a' := ?_) (ba 13 1535) rfl rfl (any_of HT_.out (by kernel_rfl)) (fun _ _ _ h => h) (Or.inl ⟨by rfl, ?_⟩) ?_ ?_
          rotate_left
          ·intro w'
           go_simp
           with_reducible rfl
          rotate_left
          ·simp only [Act.put, sA, sB, sC, i64_w, i32_w]
           rfl
          refine pure_ (i := 9) (N := some 32) (v := ?_) (a' := ?_) (ba 13 2047) rfl rfl (any_of HT_.out (by kernel_rfl)) (fun _ _ _ h => h) (Or.inl ⟨by rfl, ?_⟩) ?_ ?_
          rotate_left
          ·intro w'
           go_simp
           with_reducible rfl
          rotate_left
          ·simp only [Act.put, sA, sB, sC, i64_w, i32_w]
           rfl
          exact norm_ (by simp only [putAll, Act.put, sA, sB, sC]) (hCont (v257, gb260) _ ⟨hHeld, (by (with_reducible repeat (first | apply Kd.V_alloc | apply Kd.V_drewN | apply Kd.V_drew)); exact HO258.out), (kl BK250), (kl BK251), (kl BK260), GW260.out, GE260.out, NB250_260.out, NB260_250.out, NB251_260.out, NB260_251.out, (bl)⟩)
        rintro ⟨v257, gb260⟩ w26 ⟨hS_, h0_, h1_, h2_, h3_, h4_, h5_, h6_, h7_, h8_, h9_, h10_⟩
        have n0_ : Aside0 (Kd.V k70 70 w26 w.heap.size (fun k_ => k_ ≠ gb250 ∧ k_ ≠ gb251 ∧ k_ ≠ gb260) v257 t256) := ⟨h0_⟩
        have n1_ : Aside0 (w26.heap[gb250]? = some (.cells #[.slice A0_0 l0_0.length c0_0, .slice A0_1 l0_1.length c0_1, .slice A0_2 l0_2.length c0_2] 26 (0, 0))) := ⟨h1_⟩
        have n2_ : Aside0 (w26.heap[gb251]? = some (.cells #[.int .i64 a1_0, .slice (some ad252) l1_1.length c1_1, .slice A1_2 l1_2.length c1_2] 45 (0, 0))) := ⟨h2_⟩
        have n3_ : Aside0 (w26.heap[gb260]? = some (.cells #[.int .i64 0, .int .i64 0, .int .i64 0, .slice none 0 0] 39 (0, 0))) := ⟨h3_⟩
        have n4_ : Aside0 (w.heap.size ≤ gb260) := ⟨h4_⟩
        have n5_ : Aside0 (w.heap.size ≤ gb260) := ⟨h5_⟩
        have n6_ : Aside0 (gb250 ≠ gb260) := ⟨h6_⟩
        have n7_ : Aside0 (gb260 ≠ gb250) := ⟨h7_⟩
        have n8_ : Aside0 (gb251 ≠ gb260) := ⟨h8_⟩
        have n9_ : Aside0 (gb260 ≠ gb251) := ⟨h9_⟩
        have n10_ : Aside0 (Below w.heap.size w w26) := ⟨h10_⟩
        clear BK250 BK251 HB h0_ h1_ h2_ h3_ h4_ h5_ h6_ h7_ h8_ h9_ h10_
        have HO258 := n0_
        have BK250 := n1_
        have BK251 := n2_
        have BK260 := n3_
        have GW260 := n4_
        have GE260 := n5_
        have NB250_260 := n6_
        have NB260_250 := n7_
        have NB251_260 := n8_
        have NB260_251 := n9_
        have HB := n10_
        clear n0_ n1_ n2_ n3_ n4_ n5_ n6_ n7_ n8_ n9_ n10_
        have hHeld : w26.cell? ⟨gb250, 0, none⟩ = some (.slice A0_0 l0_0.length c0_0) ∧ w26.cell? ⟨gb250, 1, none⟩ = some (.slice A0_1 l0_1.length c0_1) ∧ w26.cell? ⟨gb250, 2, none⟩ = some (.slice A0_2 l0_2.length c0_2) ∧ w26.cell? ⟨gb251, 0, none⟩ = some (.int .i64 a1_0) ∧ w26.cell? ⟨gb251, 1, none⟩ = some (.slice (some ad252) l1_1.length c1_1) ∧ w26.cell? ⟨gb251, 2, none⟩ = some (.slice A1_2 l1_2.length c1_2) ∧ w26.cell? (ad252.add (x5_1).toNat) = some (.int .i64 (rd l1_1 x5_1)) := hS_
        obtain ⟨Ao30, co30, eo30⟩ := Kd.V_slice HO258.out
        (first | subst eo30 | (injection eo30 with f1_ f2_ f3_; have f4_ := f1_.symm; have f5_ := f3_.symm; clear f1_ f2_ f3_; subst f4_; subst f5_))
        refine norm_ (a' := ?_) ?_ ?_
        rotate_left
        ·simp only [putAll, Act.put, sA, sB, sC]
         rfl
        refine one_ (i := 11) (N := none) (ba 13 4095) rfl rfl (one_of HT_.out (by kernel_rfl)) (by decide) (fun K hK => ?_)
        have hs27 : w26.cell? ⟨gb260, 0, none⟩ = some (.int .i64 0) := (kC BK260.out 0).trans rfl
        have hfs27 := kF BK260.out 0
        have hns27_0 := NB250_260.out
        have hns27_1 := NB251_260.out
        have hms27_0 := NB260_250.out
        have hms27_1 := NB260_251.out
        have hs28 : w26.cell? ⟨gb260, 1, none⟩ = some (.int .i64 0) := (kC BK260.out 1).trans rfl
        have hfs28 := kF BK260.out 1
        have hns28_0 := NB250_260.out
        have hns28_1 := NB251_260.out
        have hms28_0 := NB260_250.out
        have hms28_1 := NB260_251.out
        have hs29 : w26.cell? ⟨gb260, 2, none⟩ = some (.int .i64 0) := (kC BK260.out 2).trans rfl
        have hfs29 := kF BK260.out 2
        have hns29_0 := NB250_260.out
        have hns29_1 := NB251_260.out
        have hms29_0 := NB260_250.out
        have hms29_1 := NB260_251.out
        have hs31 : w26.cell? ⟨gb260, 3, none⟩ = some (.slice none 0 0) := (kC BK260.out 3).trans rfl
        have hfs31 := kF BK260.out 3
        have hns31_0 := NB250_260.out
        have hns31_1 := NB251_260.out
        have hms31_0 := NB260_250.out
        have hms31_1 := NB260_251.out
        refine skip_ (w1 := ?_) (by rfl) rfl ?_ ?_
        rotate_left
        ·go_simp
         rfl
        refine hK.out _ _ ⟨((cell_far (p := ⟨gb260, _, none⟩) NB250_260.out _).trans (((cell_far (p := ⟨gb260, _, none⟩) NB250_260.out _).trans (((cell_far (p := ⟨gb260, _, none⟩) NB250_260.out _).trans (((cell_far (p := ⟨gb260, _, none⟩) NB250_260.out _).trans (hHeld.1)))))))), ((cell_far (p := ⟨gb260, _, none⟩) NB250_260.out _).trans (((cell_far (p := ⟨gb260, _, none⟩) NB250_260.out _).trans (((cell_far (p := ⟨gb260, _, none⟩) NB250_260.out _).trans (((cell_far (p := ⟨gb260, _, none⟩) NB250_260.out _).trans (hHeld.2.1)))))))), ((cell_far (p := ⟨gb260, _, none⟩) NB250_260.out _).trans (((cell_far (p := ⟨gb260, _, none⟩) NB250_260.out _).trans (((cell_far (p := ⟨gb260, _, none⟩) NB250_260.out _).trans (((cell_far (p := ⟨gb260, _, none⟩) NB250_260.out _).trans (hHeld.2.2.1)))))))), ((cell_far (p := ⟨gb260, _, none⟩) NB251_260.out _).trans (((cell_far (p := ⟨gb260, _, none⟩) NB251_260.out _).trans (((cell_far (p := ⟨gb260, _, none⟩) NB251_260.out _).trans (((cell_far (p := ⟨gb260, _, none⟩) NB251_260.out _).trans (hHeld.2.2.2.1)))))))), ((cell_far (p := ⟨gb260, _, none⟩) NB251_260.out _).trans (((cell_far (p := ⟨gb260, _, none⟩) NB251_260.out _).trans (((cell_far (p := ⟨gb260, _, none⟩) NB251_260.out _).trans (((cell_far (p := ⟨gb260, _, none⟩) NB251_260.out _).trans (hHeld.2.2.2.2.1)))))))), ((cell_far (p := ⟨gb260, _, none⟩) NB251_260.out _).trans (((cell_far (p := ⟨gb260, _, none⟩) NB251_260.out _).trans (((cell_far (p := ⟨gb260, _, none⟩) NB251_260.out _).trans (((cell_far (p := ⟨gb260, _, none⟩) NB251_260.out _).trans (hHeld.2.2.2.2.2.1)))))))), ((cell_far (p := ⟨gb260, _, none⟩) (by first | exact Nat.ne_of_lt (Nat.lt_of_lt_of_le (by have := World.block_lt_of_cell? _ _ hw252_0; first | rwa [add_block] at this | exact this) GW260.out) | (rw [add_block]; exact Nat.ne_of_lt (Nat.lt_of_lt_of_le (by have := World.block_lt_of_cell? _ _ hw252_0; first | rwa [add_block] at this | exact this) GW260.out)) | (show (Addr.add _ _).block ≠ _; rw [add_block]; exact Nat.ne_of_lt (Nat.lt_of_lt_of_le (by have := World.block_lt_of_cell? _ _ hw252_0; first | rwa [add_block] at this | exact this) GW260.out)) | (dsimp only; exact Nat.ne_of_lt (Nat.lt_of_lt_of_le (by have := World.block_lt_of_cell? _ _ hw252_0; first | rwa [add_block] at this | exact this) GW260.out))) _).trans (((cell_far (p := ⟨gb260, _, none⟩) (by first | exact Nat.ne_of_lt (Nat.lt_of_lt_of_le (by have := World.block_lt_of_cell? _ _ hw252_0; first | rwa [add_block] at this | exact this) GW260.out) | (rw [add_block]; exact Nat.ne_of_lt (Nat.lt_of_lt_of_le (by have := World.block_lt_of_cell? _ _ hw252_0; first | rwa [add_block] at this | exact this) GW260.out)) | (show (Addr.add _ _).block ≠ _; rw [add_block]; exact Nat.ne_of_lt (Nat.lt_of_lt_of_le (by have := World.block_lt_of_cell? _ _ hw252_0; first | rwa [add_block] at this | exact this) GW260.out)) | (dsimp only; exact Nat.ne_of_lt (Nat.lt_of_lt_of_le (by have := World.block_lt_of_cell? _ _ hw252_0; first | rwa [add_block] at this | exact this) GW260.out))) _).trans (((cell_far (p := ⟨gb260, _, none⟩) (by first | exact Nat.ne_of_lt (Nat.lt_of_lt_of_le (by have := World.block_lt_of_cell? _ _ hw252_0; first | rwa [add_block] at this | exact this) GW260.out) | (rw [add_block]; exact Nat.ne_of_lt (Nat.lt_of_lt_of_le (by have := World.block_lt_of_cell? _ _ hw252_0; first | rwa [add_block] at this | exact this) GW260.out)) | (show (Addr.add _ _).block ≠ _; rw [add_block]; exact Nat.ne_of_lt (Nat.lt_of_lt_of_le (by have := World.block_lt_of_cell? _ _ hw252_0; first | rwa [add_block] at this | exact this) GW260.out)) | (dsimp only; exact Nat.ne_of_lt (Nat.lt_of_lt_of_le (by have := World.block_lt_of_cell? _ _ hw252_0; first | rwa [add_block] at this | exact this) GW260.out))) _).trans (((cell_far (p := ⟨gb260, _, none⟩) (by first | exact Nat.ne_of_lt (Nat.lt_of_lt_of_le (by have := World.block_lt_of_cell? _ _ hw252_0; first | rwa [add_block] at this | exact this) GW260.out) | (rw [add_block]; exact Nat.ne_of_lt (Nat.lt_of_lt_of_le (by have := World.block_lt_of_cell? _ _ hw252_0; first | rwa [add_block] at this | exact this) GW260.out)) | (show (Addr.add _ _).block ≠ _; rw [add_block]; exact Nat.ne_of_lt (Nat.lt_of_lt_of_le (by have := World.block_lt_of_cell? _ _ hw252_0; first | rwa [add_block] at this | exact this) GW260.out)) | (dsimp only; exact Nat.ne_of_lt (Nat.lt_of_lt_of_le (by have := World.block_lt_of_cell? _ _ hw252_0; first | rwa [add_block] at this | exact this) GW260.out))) _).trans (hHeld.2.2.2.2.2.2))))))))⟩ (fun hHeld => ?_)
        clear hK K
        refine pure_ (i := 12) (N := some 7) (v := ?_) (a' := ?_) (ba 13 8191) rfl rfl (any_of HT_.out (by kernel_rfl)) (fun _ _ _ h => h) (Or.inl ⟨by rfl, ?_⟩) ?_ ?_
        rotate_left
        ·intro w'
         go_simp
         with_reducible rfl
        rotate_left
        ·simp only [Act.put, sA, sB, sC, i64_w, i32_w]
         rfl
        refine done_ (done_of HT_.out (by kernel_rfl)) ?_
        try go_wp2
        go_roundg k1
        case measure => have := HK1.out; omega
        case rel => exact ⟨(wrap64 (x5_1 + 1)), (by first | rfl | (simp; done) | (simp [*]; done)), H', ⟨by have := HK1.out; omega⟩, ⟨by (with_reducible repeat (first | refine kN ?_ _ | refine kD ?_ | refine kA ?_ _)); refine blk_far ?_ NB250_260.out _; (with_reducible repeat (first | refine kN ?_ _ | refine kD ?_ | refine kA ?_ _)); refine blk_far ?_ NB250_260.out _; (with_reducible repeat (first | refine kN ?_ _ | refine kD ?_ | refine kA ?_ _)); refine blk_far ?_ NB250_260.out _; (with_reducible repeat (first | refine kN ?_ _ | refine kD ?_ | refine kA ?_ _)); refine blk_far ?_ NB250_260.out _; (with_reducible repeat (first | refine kN ?_ _ | refine kD ?_ | refine kA ?_ _)); exact BK250.out⟩, ⟨by (with_reducible repeat (first | refine kN ?_ _ | refine kD ?_ | refine kA ?_ _)); refine blk_far ?_ NB251_260.out _; (with_reducible repeat (first | refine kN ?_ _ | refine kD ?_ | refine kA ?_ _)); refine blk_far ?_ NB251_260.out _; (with_reducible repeat (first | refine kN ?_ _ | refine kD ?_ | refine kA ?_ _)); refine blk_far ?_ NB251_260.out _; (with_reducible repeat (first | refine kN ?_ _ | refine kD ?_ | refine kA ?_ _)); refine blk_far ?_ NB251_260.out _; (with_reducible repeat (first | refine kN ?_ _ | refine kD ?_ | refine kA ?_ _)); exact BK251.out⟩, ⟨bl⟩⟩
       ·replace c20 := Bool.eq_false_iff.mpr c20
        subst c20
        have H1 : (some 9) = some r := by rw [if_neg (show ¬ (false = true) by decide)] at H; exact H
        clear H
        have H := H1
        clear H1
        obtain rfl := Option.some.inj H
        have hnb32 := NB251_250.out
        have hnc32 := NB250_251.out
        have hcz33_0 : wr.cell? ⟨gb251, 0, none⟩ = some (.int .i64 a1_0) := (kC BK251.out 0).trans rfl
        have hcz33_1 : wr.cell? ⟨gb251, 1, none⟩ = some (.slice A1_1 l1_1.length c1_1) := (kC BK251.out 1).trans rfl
        have hcz33_2 : wr.cell? ⟨gb251, 2, none⟩ = some (.slice A1_2 l1_2.length c1_2) := (kC BK251.out 2).trans rfl
        have hfz33_0 := kF BK251.out 0
        have hfz33_1 := kF BK251.out 1
        have hfz33_2 := kF BK251.out 2
        try go_wp2
        replace BK250 := aM (kD BK250.out)
        replace BK251 := aM (kD BK251.out)
        replace HB := aM (bD HB.out)
        have p252 : 0 ≤ (x5_1 : Int) := oT
        have q252 : x5_1 < (l1_1.length : Int) := oT
        obtain ⟨ad252, e252, hx252_0⟩ := Kd.at_int HR1_1.out x5_1 p252 q252
        have hw252_0 := hx252_0
        cases e252
        replace hx252_0 := hs HB.out hx252_0
        replace p252 := eq_true p252
        replace q252 := eq_true q252
        refine start_ (n := 13) (S := fun w' => w'.cell? ⟨gb250, 0, none⟩ = some (.slice A0_0 l0_0.length c0_0) ∧ w'.cell? ⟨gb250, 1, none⟩ = some (.slice A0_1 l0_1.length c0_1) ∧ w'.cell? ⟨gb250, 2, none⟩ = some (.slice A0_2 l0_2.length c0_2) ∧ w'.cell? ⟨gb251, 0, none⟩ = some (.int .i64 a1_0) ∧ w'.cell? ⟨gb251, 1, none⟩ = some (.slice (some ad252) l1_1.length c1_1) ∧ w'.cell? ⟨gb251, 2, none⟩ = some (.slice A1_2 l1_2.length c1_2) ∧ w'.cell? (ad252.add (x5_1).toNat) = some (.int .i64 (rd l1_1 x5_1))) (ds := []) #[false, false, false, false, false, false, false, false, false, false, false, false, false] (by kernel_rfl) rfl rfl ⟨(kC BK250.out 0).trans rfl, (kC BK250.out 1).trans rfl, (kC BK250.out 2).trans rfl, (kC BK251.out 0).trans rfl, (kC BK251.out 1).trans rfl, (kC BK251.out 2).trans rfl, ((HB.out.cell (World.block_lt_of_cell? w _ hw252_0)).trans hw252_0)⟩ (fun hHeld => ?_); refine with_tabW mapmakerref14_way.tab8 mapmakerref14_way.bits8 (fun HT_ HW_ => ?_)
        generalize wr.drew = w34 at BK250 BK251 HB hx252_0 hHeld ⊢
        refine pure_ (i := 1) (N := some 25) (v := ?_) (a' := ?_) (ba 13 2) rfl rfl (any_of HT_.out (by kernel_rfl)) (fun _ _ _ h => h) (Or.inl ⟨by rfl, ?_⟩) ?_ ?_
        rotate_left
        ·intro w'
         go_simp
         with_reducible rfl
        rotate_left
        ·simp only [Act.put, sA, sB, sC, i64_w, i32_w]
         rfl
        refine pure_ (i := 3) (N := some 27) (v := ?_) (a' := ?_) (ba 13 10) rfl rfl (any_of HT_.out (by kernel_rfl)) (fun _ _ _ h => h) (Or.inl ⟨by rfl, ?_⟩) ?_ ?_
        rotate_left
        ·intro w'
         go_simp
         with_reducible rfl
        rotate_left
        ·simp only [Act.put, sA, sB, sC, i64_w, i32_w]
         rfl
        refine take_ (i := 0) (N := some 24) (v := ?_) (a' := ?_) (ba 13 11) rfl rfl (take_ofW HT_.out HW_.out (by kernel_rfl)) (fun _ _ _ h => h) (Or.inl ⟨by rfl, ?_⟩) hHeld ?_ ?_
        rotate_left
        ·rintro w' ⟨s0, s1, s2, s3, s4, s5, s6⟩
         go_simp
         with_reducible rfl
        rotate_left
        ·simp only [Act.put, sA, sB, sC, i64_w, i32_w]
         rfl
        refine take_ (i := 2) (N := some 26) (v := ?_) (a' := ?_) (ba 13 15) rfl rfl (take_ofW HT_.out HW_.out (by kernel_rfl)) (fun _ _ _ h => h) (Or.inl ⟨by rfl, ?_⟩) hHeld ?_ ?_
        rotate_left
        ·rintro w' ⟨s0, s1, s2, s3, s4, s5, s6⟩
         go_simp
         with_reducible rfl
        rotate_left
        ·simp only [Act.put, sA, sB, sC, i64_w, i32_w]
         rfl
        refine pure_ (i := 4) (N := some 28) (v := ?_) (a' := ?_) (ba 13 31) rfl rfl (any_of HT_.out (by kernel_rfl)) (fun _ _ _ h => h) (Or.inl ⟨by rfl, ?_⟩) ?_ ?_
        rotate_left
        ·intro w'
         go_simp
         with_reducible rfl
        rotate_left
        ·simp only [Act.put, sA, sB, sC, i64_w, i32_w]
         rfl
        refine take_ (i := 5) (N := some 29) (v := ?_) (a' := ?_) (ba 13 63) rfl rfl (take_ofW HT_.out HW_.out (by kernel_rfl)) (fun _ _ _ h => h) (Or.inl ⟨by rfl, ?_⟩) hHeld ?_ ?_
        rotate_left
        ·rintro w' ⟨s0, s1, s2, s3, s4, s5, s6⟩
         go_simp
         with_reducible rfl
        rotate_left
        ·simp only [Act.put, sA, sB, sC, i64_w, i32_w]
         rfl
        refine join_ (σ := Value × Nat) 2 #[true, true, true, true, true, true, true, true, true, true, true, false, false] (fun s_ => [(30, .tuple #[.agg #[.int .i64 t253, .int .i64 t254, .int .i64 t255, s_.1], .bool false]), (6, .pointer (some ⟨s_.2, 0, none⟩)), (23, .tuple #[.agg #[.int .i64 t253, .int .i64 t254, .int .i64 t255, s_.1], .bool false]), (31, .agg #[.int .i64 t253, .int .i64 t254, .int .i64 t255, s_.1]), (32, .bool false)]) (fun s_ w' => (w'.cell? ⟨gb250, 0, none⟩ = some (.slice A0_0 l0_0.length c0_0) ∧ w'.cell? ⟨gb250, 1, none⟩ = some (.slice A0_1 l0_1.length c0_1) ∧ w'.cell? ⟨gb250, 2, none⟩ = some (.slice A0_2 l0_2.length c0_2) ∧ w'.cell? ⟨gb251, 0, none⟩ = some (.int .i64 a1_0) ∧ w'.cell? ⟨gb251, 1, none⟩ = some (.slice (some ad252) l1_1.length c1_1) ∧ w'.cell? ⟨gb251, 2, none⟩ = some (.slice A1_2 l1_2.length c1_2) ∧ w'.cell? (ad252.add (x5_1).toNat) = some (.int .i64 (rd l1_1 x5_1))) ∧ (Kd.V k70 70 w' w.heap.size (fun k_ => k_ ≠ gb250 ∧ k_ ≠ gb251 ∧ k_ ≠ s_.2) s_.1 t256) ∧ (w'.heap[gb250]? = some (.cells #[.slice A0_0 l0_0.length c0_0, .slice A0_1 l0_1.length c0_1, .slice A0_2 l0_2.length c0_2] 26 (0, 0))) ∧ (w'.heap[gb251]? = some (.cells #[.int .i64 a1_0, .slice (some ad252) l1_1.length c1_1, .slice A1_2 l1_2.length c1_2] 45 (0, 0))) ∧ (w'.heap[s_.2]? = some (.cells #[.int .i64 0, .int .i64 0, .int .i64 0, .slice none 0 0] 39 (0, 0))) ∧ (w.heap.size ≤ s_.2) ∧ (w.heap.size ≤ s_.2) ∧ (gb250 ≠ s_.2) ∧ (s_.2 ≠ gb250) ∧ (gb251 ≠ s_.2) ∧ (s_.2 ≠ gb251) ∧ (Below w.heap.size w w')) ?_ ?_
        rotate_left
        ·intro hCont
         refine two_ (i := 6) (j := 10) (Ni := some 30) (Nj := some 6) #[true, true, true, true, true, true, true, false, false, false, false, false, false] #[true, true, true, true, true, true, false, false, false, false, true, false, false] rfl rfl rfl rfl (two_of HT_.out (by kernel_rfl)) (by decide) (by decide) (fun K hK => ?_) (fun K hK => ?_)
         ·skip
          refine goes_ Try.func13 (by kernel_rfl) rfl #[.agg #[.slice A0_0 l0_0.length c0_0, .slice A0_1 l0_1.length c0_1, .slice A0_2 l0_2.length c0_2], .int .i64 (rd l1_1 x5_1)] (by rfl) rfl rfl (by (try simp only [List.map_toArray, List.map_cons, List.map_nil]); first | done | rfl | (simp only [List.length_drop, List.length_take]; rfl)) ?_
          with_reducible refine (mapmakerref14_Node.calls k1 (fun k_ => k_ < w.heap.size) _ _ l0_0 _ _ l0_1 _ _ l0_2 (rd l1_1 x5_1) t253 t254 t255 t256 false _ ?side1 ?side2 ?side3 ?side4 ?side5 A19.out).mono ?_
          (case side1 => exact Kd.V_mk HC0_0.out (Kd.F_below (Kd.C_F k39_heap HR0_0.out) (bl)))
          (case side2 => repeat (first | exact (Kd.C_below HR0_1.out HB.out) | (with_reducible refine cA ?_ _) | (with_reducible refine cN ?_ _) | (with_reducible refine cD ?_)))
          (case side3 => exact HC0_1.out)
          (case side4 => repeat (first | exact (Kd.C_below HR0_2.out HB.out) | (with_reducible refine cA ?_ _) | (with_reducible refine cN ?_ _) | (with_reducible refine cD ?_)))
          (case side5 => exact HC0_2.out)
          rintro e w35 ⟨v257, rfl, ho0, hb⟩
          refine ⟨_, rfl, ?_⟩
          have HO258 := aM (Kd.V_lower (Kd.V_mono (ok' := fun k_ => k_ ≠ gb250 ∧ k_ ≠ gb251) ho0 (fun k_ hk_ => ⟨Or.elim hk_ (fun hs_ => fun e_ => Nat.not_le.2 hs_ (by rw [e_]; exact GW250.out)) (fun hn_ => (Kd.freshB (g := gb250) (o := .cells #[.slice A0_0 l0_0.length c0_0, .slice A0_1 l0_1.length c0_1, .slice A0_2 l0_2.length c0_2] 26 (0, 0)) (kl BK250) k_ hn_)), Or.elim hk_ (fun hs_ => fun e_ => Nat.not_le.2 hs_ (by rw [e_]; exact GW251.out)) (fun hn_ => (Kd.freshB (g := gb251) (o := .cells #[.int .i64 a1_0, .slice (some ad252) l1_1.length c1_1, .slice A1_2 l1_2.length c1_2] 45 (0, 0)) (kl BK251) k_ hn_))⟩)) (below_size (bl)))
          replace BK250 := aM (kB (kl BK250) hb)
          replace BK251 := aM (kB (kl BK251) hb)
          replace HB := aM (bS (bl) hb)
          (try clear hb)
          (try clear hb2)
          (try clear hk)
          (try clear hi)
          (try clear ho0)
          refine hK.out _ _ ⟨(kC BK250.out 0).trans rfl, (kC BK250.out 1).trans rfl, (kC BK250.out 2).trans rfl, (kC BK251.out 0).trans rfl, (kC BK251.out 1).trans rfl, (kC BK251.out 2).trans rfl, ((HB.out.cell (World.block_lt_of_cell? w _ hw252_0)).trans hw252_0)⟩ (fun hHeld => ?_)
          clear hK K
          refine norm_ (a' := ?_) ?_ ?_
          rotate_left
          ·show Act.put _ (some 30) _ = _
           simp only [Act.put, sA, sB, sC, i64_w, i32_w]
           rfl
          refine pure_ (i := 7) (N := some 23) (v := ?_) (a' := ?_) (ba 13 255) rfl rfl (any_of HT_.out (by kernel_rfl)) (fun _ _ _ h => h) (Or.inl ⟨by rfl, ?_⟩) ?_ ?_
          rotate_left
          ·intro w'
           go_simp
           with_reducible rfl
          rotate_left
          ·simp only [Act.put, sA, sB, sC, i64_w, i32_w]
           rfl
          refine pure_ (i := 8) (N := some 31) (v := ?_) (a' := ?_) (ba 13 511) rfl rfl (any_of HT_.out (by kernel_rfl)) (fun _ _ _ h => h) (Or.inl ⟨by rfl, ?_⟩) ?_ ?_
          rotate_left
          ·intro w'
           go_simp
           with_reducible rfl
          rotate_left
          ·simp only [Act.put, sA, sB, sC, i64_w, i32_w]
           rfl
          refine pure_ (i := 9) (N := some 32) (v := ?_) (a' := ?_) (ba 13 1023) rfl rfl (any_of HT_.out (by kernel_rfl)) (fun _ _ _ h => h) (Or.inl ⟨by rfl, ?_⟩) ?_ ?_
          rotate_left
          ·intro w'
           go_simp
           with_reducible rfl
          rotate_left
          ·simp only [Act.put, sA, sB, sC, i64_w, i32_w]
           rfl
          refine one_ (i := 10) (N := some 6) (ba 13 2047) rfl rfl (one_of HT_.out (by kernel_rfl)) (by decide) (fun K hK => ?_)
          refine box_step ?hg (N := 6) ?hd (cs := #[.int .i64 0, .int .i64 0, .int .i64 0, .slice none 0 0]) (t := 39) ?hr ?_; (case hd => rfl); (case hg => rfl); (case hr => first | (go_simp; done) | (go_simp; rfl))
          intro gb260 hg w36 hbox hb
          have n0_ := aM (Kd.V_below (Kd.V_elderB (by (with_reducible repeat (first | apply Kd.V_alloc | apply Kd.V_drewN | apply Kd.V_drew)); exact HO258.out) gb260 (Nat.le_of_eq hg.symm)) hb)
          have n1_ := aM (kB (kl BK250) hb)
          have n2_ := aM (kB (kl BK251) hb)
          have n3_ := aM (bS (bl) hb)
          have n4_ := aM (hbox)
          have n5_ := aM (gw (w := w) hg)
          have n6_ := aM (gw (w := w) hg)
          have n7_ := aM (nb BK250 hg)
          have n8_ := aM (nb BK250 hg).symm
          have n9_ := aM (nb BK251 hg)
          have n10_ := aM (nb BK251 hg).symm
          clear HO258 BK250 BK251 HB
          have HO258 := n0_
          have BK250 := n1_
          have BK251 := n2_
          have HB := n3_
          have BK260 := n4_
          have GW260 := n5_
          have GE260 := n6_
          have NB250_260 := n7_
          have NB260_250 := n8_
          have NB251_260 := n9_
          have NB260_251 := n10_
          clear n0_ n1_ n2_ n3_ n4_ n5_ n6_ n7_ n8_ n9_ n10_ hb hbox hg
          refine hK.out _ _ ⟨(kC BK250.out 0).trans rfl, (kC BK250.out 1).trans rfl, (kC BK250.out 2).trans rfl, (kC BK251.out 0).trans rfl, (kC BK251.out 1).trans rfl, (kC BK251.out 2).trans rfl, ((HB.out.cell (World.block_lt_of_cell? w _ hw252_0)).trans hw252_0)⟩ (fun hHeld => ?_)
          clear hK K
          refine norm_ (a' := ?_) ?_ ?_
          rotate_left
          ·show Act.put _ (some 6) _ = _
           simp only [Act.put, sA, sB, sC, i64_w, i32_w]
           rfl
          exact norm_ (by simp only [putAll, Act.put, sA, sB, sC]) (hCont (v257, gb260) _ ⟨hHeld, (by (with_reducible repeat (first | apply Kd.V_alloc | apply Kd.V_drewN | apply Kd.V_drew)); exact Kd.V_mono HO258.out (fun _ hk => ⟨hk.1.1, ⟨hk.1.2, hk.2⟩⟩)), (kl BK250), (kl BK251), (kl BK260), GW260.out, GE260.out, NB250_260.out, NB260_250.out, NB251_260.out, NB260_251.out, (bl)⟩)
         ·skip
          refine box_step ?hg (N := 6) ?hd (cs := #[.int .i64 0, .int .i64 0, .int .i64 0, .slice none 0 0]) (t := 39) ?hr ?_; (case hd => rfl); (case hg => rfl); (case hr => first | (go_simp; done) | (go_simp; rfl))
          intro gb260 hg w35 hbox hb
          have n0_ := aM (kB (kl BK250) hb)
          have n1_ := aM (kB (kl BK251) hb)
          have n2_ := aM (bS (bl) hb)
          have n3_ := aM (hbox)
          have n4_ := aM (gw (w := w) hg)
          have n5_ := aM (gw (w := w) hg)
          have n6_ := aM (nb BK250 hg)
          have n7_ := aM (nb BK250 hg).symm
          have n8_ := aM (nb BK251 hg)
          have n9_ := aM (nb BK251 hg).symm
          clear BK250 BK251 HB
          have BK250 := n0_
          have BK251 := n1_
          have HB := n2_
          have BK260 := n3_
          have GW260 := n4_
          have GE260 := n5_
          have NB250_260 := n6_
          have NB260_250 := n7_
          have NB251_260 := n8_
          have NB260_251 := n9_
          clear n0_ n1_ n2_ n3_ n4_ n5_ n6_ n7_ n8_ n9_ hb hbox hg
          refine hK.out _ _ ⟨(kC BK250.out 0).trans rfl, (kC BK250.out 1).trans rfl, (kC BK250.out 2).trans rfl, (kC BK251.out 0).trans rfl, (kC BK251.out 1).trans rfl, (kC BK251.out 2).trans rfl, ((HB.out.cell (World.block_lt_of_cell? w _ hw252_0)).trans hw252_0)⟩ (fun hHeld => ?_)
          clear hK K
          refine norm_ (a' := ?_) ?_ ?_
          rotate_left
          ·show Act.put _ (some 6) _ = _
           simp only [Act.put, sA, sB, sC, i64_w, i32_w]
           rfl
          refine one_ (i := 6) (N := some 30) (ba 13 1151) rfl rfl (one_of HT_.out (by kernel_rfl)) (by decide) (fun K hK => ?_)
          refine goes_ Try.func13 (by kernel_rfl) rfl #[.agg #[.slice A0_0 l0_0.length c0_0, .slice A0_1 l0_1.length c0_1, .slice A0_2 l0_2.length c0_2], .int .i64 (rd l1_1 x5_1)] (by rfl) rfl rfl (by (try simp only [List.map_toArray, List.map_cons, List.map_nil]); first | done | rfl | (simp only [List.length_drop, List.length_take]; rfl)) ?_
          with_reducible refine (mapmakerref14_Node.calls k1 (fun k_ => k_ < w.heap.size) _ _ l0_0 _ _ l0_1 _ _ l0_2 (rd l1_1 x5_1) t253 t254 t255 t256 false _ ?side1 ?side2 ?side3 ?side4 ?side5 A19.out).mono ?_
          (case side1 => exact Kd.V_mk HC0_0.out (Kd.F_below (Kd.C_F k39_heap HR0_0.out) (bl)))
          (case side2 => repeat (first | exact (Kd.C_below HR0_1.out HB.out) | (with_reducible refine cA ?_ _) | (with_reducible refine cN ?_ _) | (with_reducible refine cD ?_)))
          (case side3 => exact HC0_1.out)
          (case side4 => repeat (first | exact (Kd.C_below HR0_2.out HB.out) | (with_reducible refine cA ?_ _) | (with_reducible refine cN ?_ _) | (with_reducible refine cD ?_)))
          (case side5 => exact HC0_2.out)
          rintro e w36 ⟨v257, rfl, ho0, hb⟩
          refine ⟨_, rfl, ?_⟩
          have HO258 := aM (Kd.V_lower (Kd.V_mono (ok' := fun k_ => k_ ≠ gb250 ∧ k_ ≠ gb251 ∧ k_ ≠ gb260) ho0 (fun k_ hk_ => ⟨Or.elim hk_ (fun hs_ => fun e_ => Nat.not_le.2 hs_ (by rw [e_]; exact GW250.out)) (fun hn_ => (Kd.freshB (g := gb250) (o := .cells #[.slice A0_0 l0_0.length c0_0, .slice A0_1 l0_1.length c0_1, .slice A0_2 l0_2.length c0_2] 26 (0, 0)) (kl BK250) k_ hn_)), Or.elim hk_ (fun hs_ => fun e_ => Nat.not_le.2 hs_ (by rw [e_]; exact GW251.out)) (fun hn_ => (Kd.freshB (g := gb251) (o := .cells #[.int .i64 a1_0, .slice (some ad252) l1_1.length c1_1, .slice A1_2 l1_2.length c1_2] 45 (0, 0)) (kl BK251) k_ hn_)), Or.elim hk_ (fun hs_ => fun e_ => Nat.not_le.2 hs_ (by rw [e_]; exact GW260.out)) (fun hn_ => (Kd.freshB (g := gb260) (o := .cells #[.int .i64 0, .int .i64 0, .int .i64 0, .slice none 0 0] 39 (0, 0)) (kl BK260) k_ hn_))⟩)) (below_size (bl)))
          replace BK250 := aM (kB (kl BK250) hb)
          replace BK251 := aM (kB (kl BK251) hb)
          replace BK260 := aM (kB (kl BK260) hb)
          replace HB := aM (bS (bl) hb)
          (try clear hb)
          (try clear hb2)
          (try clear hk)
          (try clear hi)
          (try clear ho0)
          refine hK.out _ _ ⟨(kC BK250.out 0).trans rfl, (kC BK250.out 1).trans rfl, (kC BK250.out 2).trans rfl, (kC BK251.out 0).trans rfl, (kC BK251.out 1).trans rfl, (kC BK251.out 2).trans rfl, ((HB.out.cell (World.block_lt_of_cell? w _ hw252_0)).trans hw252_0)⟩ (fun hHeld => ?_)
          clear hK K
          refine norm_ (a' := ?_) ?_ ?_
          rotate_left
          ·show Act.put _ (some 30) _ = _
           simp only [Act.put, sA, sB, sC, i64_w, i32_w]
           rfl
          refine pure_ (i := 7) (N := some 23) (v := ?_) (a' := ?_) (ba 13 1279) rfl rfl (any_of HT_.out (by kernel_rfl)) (fun _ _ _ h => h) (Or.inl ⟨by rfl, ?_⟩) ?_ ?_
          rotate_left
          ·intro w'
           go_simp
           with_reducible rfl
          rotate_left
          ·simp only [Act.put, sA, sB, sC, i64_w, i32_w]
           rfl
          refine pure_ (i := 8) (N := some 31) (v := ?_) (a' := ?_) (ba 13 1535) rfl rfl (any_of HT_.out (by kernel_rfl)) (fun _ _ _ h => h) (Or.inl ⟨by rfl, ?_⟩) ?_ ?_
          rotate_left
          ·intro w'
           go_simp
           with_reducible rfl
          rotate_left
          ·simp only [Act.put, sA, sB, sC, i64_w, i32_w]
           rfl
          refine pure_ (i := 9) (N := some 32) (v := ?_) (a' := ?_) (ba 13 2047) rfl rfl (any_of HT_.out (by kernel_rfl)) (fun _ _ _ h => h) (Or.inl ⟨by rfl, ?_⟩) ?_ ?_
          rotate_left
          ·intro w'
           go_simp
           with_reducible rfl
          rotate_left
          ·simp only [Act.put, sA, sB, sC, i64_w, i32_w]
           rfl
          exact norm_ (by simp only [putAll, Act.put, sA, sB, sC]) (hCont (v257, gb260) _ ⟨hHeld, (by (with_reducible repeat (first | apply Kd.V_alloc | apply Kd.V_drewN | apply Kd.V_drew)); exact HO258.out), (kl BK250), (kl BK251), (kl BK260), GW260.out, GE260.out, NB250_260.out, NB260_250.out, NB251_260.out, NB260_251.out, (bl)⟩)
        rintro ⟨v257, gb260⟩ w37 ⟨hS_, h0_, h1_, h2_, h3_, h4_, h5_, h6_, h7_, h8_, h9_, h10_⟩
        have n0_ : Aside0 (Kd.V k70 70 w37 w.heap.size (fun k_ => k_ ≠ gb250 ∧ k_ ≠ gb251 ∧ k_ ≠ gb260) v257 t256) := ⟨h0_⟩
        have n1_ : Aside0 (w37.heap[gb250]? = some (.cells #[.slice A0_0 l0_0.length c0_0, .slice A0_1 l0_1.length c0_1, .slice A0_2 l0_2.length c0_2] 26 (0, 0))) := ⟨h1_⟩
        have n2_ : Aside0 (w37.heap[gb251]? = some (.cells #[.int .i64 a1_0, .slice (some ad252) l1_1.length c1_1, .slice A1_2 l1_2.length c1_2] 45 (0, 0))) := ⟨h2_⟩
        have n3_ : Aside0 (w37.heap[gb260]? = some (.cells #[.int .i64 0, .int .i64 0, .int .i64 0, .slice none 0 0] 39 (0, 0))) := ⟨h3_⟩
        have n4_ : Aside0 (w.heap.size ≤ gb260) := ⟨h4_⟩
        have n5_ : Aside0 (w.heap.size ≤ gb260) := ⟨h5_⟩
        have n6_ : Aside0 (gb250 ≠ gb260) := ⟨h6_⟩
        have n7_ : Aside0 (gb260 ≠ gb250) := ⟨h7_⟩
        have n8_ : Aside0 (gb251 ≠ gb260) := ⟨h8_⟩
        have n9_ : Aside0 (gb260 ≠ gb251) := ⟨h9_⟩
        have n10_ : Aside0 (Below w.heap.size w w37) := ⟨h10_⟩
        clear BK250 BK251 HB h0_ h1_ h2_ h3_ h4_ h5_ h6_ h7_ h8_ h9_ h10_
        have HO258 := n0_
        have BK250 := n1_
        have BK251 := n2_
        have BK260 := n3_
        have GW260 := n4_
        have GE260 := n5_
        have NB250_260 := n6_
        have NB260_250 := n7_
        have NB251_260 := n8_
        have NB260_251 := n9_
        have HB := n10_
        clear n0_ n1_ n2_ n3_ n4_ n5_ n6_ n7_ n8_ n9_ n10_
        have hHeld : w37.cell? ⟨gb250, 0, none⟩ = some (.slice A0_0 l0_0.length c0_0) ∧ w37.cell? ⟨gb250, 1, none⟩ = some (.slice A0_1 l0_1.length c0_1) ∧ w37.cell? ⟨gb250, 2, none⟩ = some (.slice A0_2 l0_2.length c0_2) ∧ w37.cell? ⟨gb251, 0, none⟩ = some (.int .i64 a1_0) ∧ w37.cell? ⟨gb251, 1, none⟩ = some (.slice (some ad252) l1_1.length c1_1) ∧ w37.cell? ⟨gb251, 2, none⟩ = some (.slice A1_2 l1_2.length c1_2) ∧ w37.cell? (ad252.add (x5_1).toNat) = some (.int .i64 (rd l1_1 x5_1)) := hS_
        obtain ⟨Ao41, co41, eo41⟩ := Kd.V_slice HO258.out
        (first | subst eo41 | (injection eo41 with f1_ f2_ f3_; have f4_ := f1_.symm; have f5_ := f3_.symm; clear f1_ f2_ f3_; subst f4_; subst f5_))
        refine norm_ (a' := ?_) ?_ ?_
        rotate_left
        ·simp only [putAll, Act.put, sA, sB, sC]
         rfl
        refine one_ (i := 11) (N := none) (ba 13 4095) rfl rfl (one_of HT_.out (by kernel_rfl)) (by decide) (fun K hK => ?_)
        have hs38 : w37.cell? ⟨gb260, 0, none⟩ = some (.int .i64 0) := (kC BK260.out 0).trans rfl
        have hfs38 := kF BK260.out 0
        have hns38_0 := NB250_260.out
        have hns38_1 := NB251_260.out
        have hms38_0 := NB260_250.out
        have hms38_1 := NB260_251.out
        have hs39 : w37.cell? ⟨gb260, 1, none⟩ = some (.int .i64 0) := (kC BK260.out 1).trans rfl
        have hfs39 := kF BK260.out 1
        have hns39_0 := NB250_260.out
        have hns39_1 := NB251_260.out
        have hms39_0 := NB260_250.out
        have hms39_1 := NB260_251.out
        have hs40 : w37.cell? ⟨gb260, 2, none⟩ = some (.int .i64 0) := (kC BK260.out 2).trans rfl
        have hfs40 := kF BK260.out 2
        have hns40_0 := NB250_260.out
        have hns40_1 := NB251_260.out
        have hms40_0 := NB260_250.out
        have hms40_1 := NB260_251.out
        have hs42 : w37.cell? ⟨gb260, 3, none⟩ = some (.slice none 0 0) := (kC BK260.out 3).trans rfl
        have hfs42 := kF BK260.out 3
        have hns42_0 := NB250_260.out
        have hns42_1 := NB251_260.out
        have hms42_0 := NB260_250.out
        have hms42_1 := NB260_251.out
        refine skip_ (w1 := ?_) (by rfl) rfl ?_ ?_
        rotate_left
        ·go_simp
         rfl
        refine hK.out _ _ ⟨((cell_far (p := ⟨gb260, _, none⟩) NB250_260.out _).trans (((cell_far (p := ⟨gb260, _, none⟩) NB250_260.out _).trans (((cell_far (p := ⟨gb260, _, none⟩) NB250_260.out _).trans (((cell_far (p := ⟨gb260, _, none⟩) NB250_260.out _).trans (hHeld.1)))))))), ((cell_far (p := ⟨gb260, _, none⟩) NB250_260.out _).trans (((cell_far (p := ⟨gb260, _, none⟩) NB250_260.out _).trans (((cell_far (p := ⟨gb260, _, none⟩) NB250_260.out _).trans (((cell_far (p := ⟨gb260, _, none⟩) NB250_260.out _).trans (hHeld.2.1)))))))), ((cell_far (p := ⟨gb260, _, none⟩) NB250_260.out _).trans (((cell_far (p := ⟨gb260, _, none⟩) NB250_260.out _).trans (((cell_far (p := ⟨gb260, _, none⟩) NB250_260.out _).trans (((cell_far (p := ⟨gb260, _, none⟩) NB250_260.out _).trans (hHeld.2.2.1)))))))), ((cell_far (p := ⟨gb260, _, none⟩) NB251_260.out _).trans (((cell_far (p := ⟨gb260, _, none⟩) NB251_260.out _).trans (((cell_far (p := ⟨gb260, _, none⟩) NB251_260.out _).trans (((cell_far (p := ⟨gb260, _, none⟩) NB251_260.out _).trans (hHeld.2.2.2.1)))))))), ((cell_far (p := ⟨gb260, _, none⟩) NB251_260.out _).trans (((cell_far (p := ⟨gb260, _, none⟩) NB251_260.out _).trans (((cell_far (p := ⟨gb260, _, none⟩) NB251_260.out _).trans (((cell_far (p := ⟨gb260, _, none⟩) NB251_260.out _).trans (hHeld.2.2.2.2.1)))))))), ((cell_far (p := ⟨gb260, _, none⟩) NB251_260.out _).trans (((cell_far (p := ⟨gb260, _, none⟩) NB251_260.out _).trans (((cell_far (p := ⟨gb260, _, none⟩) NB251_260.out _).trans (((cell_far (p := ⟨gb260, _, none⟩) NB251_260.out _).trans (hHeld.2.2.2.2.2.1)))))))), ((cell_far (p := ⟨gb260, _, none⟩) (by first | exact Nat.ne_of_lt (Nat.lt_of_lt_of_le (by have := World.block_lt_of_cell? _ _ hw252_0; first | rwa [add_block] at this | exact this) GW260.out) | (rw [add_block]; exact Nat.ne_of_lt (Nat.lt_of_lt_of_le (by have := World.block_lt_of_cell? _ _ hw252_0; first | rwa [add_block] at this | exact this) GW260.out)) | (show (Addr.add _ _).block ≠ _; rw [add_block]; exact Nat.ne_of_lt (Nat.lt_of_lt_of_le (by have := World.block_lt_of_cell? _ _ hw252_0; first | rwa [add_block] at this | exact this) GW260.out)) | (dsimp only; exact Nat.ne_of_lt (Nat.lt_of_lt_of_le (by have := World.block_lt_of_cell? _ _ hw252_0; first | rwa [add_block] at this | exact this) GW260.out))) _).trans (((cell_far (p := ⟨gb260, _, none⟩) (by first | exact Nat.ne_of_lt (Nat.lt_of_lt_of_le (by have := World.block_lt_of_cell? _ _ hw252_0; first | rwa [add_block] at this | exact this) GW260.out) | (rw [add_block]; exact Nat.ne_of_lt (Nat.lt_of_lt_of_le (by have := World.block_lt_of_cell? _ _ hw252_0; first | rwa [add_block] at this | exact this) GW260.out)) | (show (Addr.add _ _).block ≠ _; rw [add_block]; exact Nat.ne_of_lt (Nat.lt_of_lt_of_le (by have := World.block_lt_of_cell? _ _ hw252_0; first | rwa [add_block] at this | exact this) GW260.out)) | (dsimp only; exact Nat.ne_of_lt (Nat.lt_of_lt_of_le (by have := World.block_lt_of_cell? _ _ hw252_0; first | rwa [add_block] at this | exact this) GW260.out))) _).trans (((cell_far (p := ⟨gb260, _, none⟩) (by first | exact Nat.ne_of_lt (Nat.lt_of_lt_of_le (by have := World.block_lt_of_cell? _ _ hw252_0; first | rwa [add_block] at this | exact this) GW260.out) | (rw [add_block]; exact Nat.ne_of_lt (Nat.lt_of_lt_of_le (by have := World.block_lt_of_cell? _ _ hw252_0; first | rwa [add_block] at this | exact this) GW260.out)) | (show (Addr.add _ _).block ≠ _; rw [add_block]; exact Nat.ne_of_lt (Nat.lt_of_lt_of_le (by have := World.block_lt_of_cell? _ _ hw252_0; first | rwa [add_block] at this | exact this) GW260.out)) | (dsimp only; exact Nat.ne_of_lt (Nat.lt_of_lt_of_le (by have := World.block_lt_of_cell? _ _ hw252_0; first | rwa [add_block] at this | exact this) GW260.out))) _).trans (((cell_far (p := ⟨gb260, _, none⟩) (by first | exact Nat.ne_of_lt (Nat.lt_of_lt_of_le (by have := World.block_lt_of_cell? _ _ hw252_0; first | rwa [add_block] at this | exact this) GW260.out) | (rw [add_block]; exact Nat.ne_of_lt (Nat.lt_of_lt_of_le (by have := World.block_lt_of_cell? _ _ hw252_0; first | rwa [add_block] at this | exact this) GW260.out)) | (show (Addr.add _ _).block ≠ _; rw [add_block]; exact Nat.ne_of_lt (Nat.lt_of_lt_of_le (by have := World.block_lt_of_cell? _ _ hw252_0; first | rwa [add_block] at this | exact this) GW260.out)) | (dsimp only; exact Nat.ne_of_lt (Nat.lt_of_lt_of_le (by have := World.block_lt_of_cell? _ _ hw252_0; first | rwa [add_block] at this | exact this) GW260.out))) _).trans (hHeld.2.2.2.2.2.2))))))))⟩ (fun hHeld => ?_)
        clear hK K
        refine pure_ (i := 12) (N := some 7) (v := ?_) (a' := ?_) (ba 13 8191) rfl rfl (any_of HT_.out (by kernel_rfl)) (fun _ _ _ h => h) (Or.inl ⟨by rfl, ?_⟩) ?_ ?_
        rotate_left
        ·intro w'
         go_simp
         with_reducible rfl
        rotate_left
        ·simp only [Act.put, sA, sB, sC, i64_w, i32_w]
         rfl
        refine done_ (done_of HT_.out (by kernel_rfl)) ?_
        try go_wp2
        go_ret
        exact ⟨by first | rfl | (simp [errW_none, errW_some] <;> rfl) | (simp [*, errW_none, errW_some] <;> rfl), bl⟩
      ·rw [if_neg c18] at H
       exact absurd H (by simp)
     ·rw [if_neg c17] at H
      have c17b0 : decide (x5_1 < (l1_1.length : Int)) = false := decide_eq_false c17
      clear c17
      replace H := Option.bind_eq_some_iff.mp H
      obtain ⟨t261, A430, H⟩ := H
      try dsimp only at H
      have A43 := aM A430
      clear A430
      obtain rfl := Option.some.inj H
      have hnb44 := NB251_250.out
      have hnc44 := NB250_251.out
      have hcz45_0 : wr.cell? ⟨gb251, 0, none⟩ = some (.int .i64 a1_0) := (kC BK251.out 0).trans rfl
      have hcz45_1 : wr.cell? ⟨gb251, 1, none⟩ = some (.slice A1_1 l1_1.length c1_1) := (kC BK251.out 1).trans rfl
      have hcz45_2 : wr.cell? ⟨gb251, 2, none⟩ = some (.slice A1_2 l1_2.length c1_2) := (kC BK251.out 2).trans rfl
      have hfz45_0 := kF BK251.out 0
      have hfz45_1 := kF BK251.out 1
      have hfz45_2 := kF BK251.out 2
      go_wp2_with (first | ((with_reducible refine gate_callee (f := 78) rfl ?_); refine gL (some 37) Try.func78 #[.slice A1_2 l1_2.length c1_2] ?_; (with_reducible refine (mapmakerref06_Check.calls k1 _ _ l1_2 t261 _ ?side1 ?side2 A43.out).mono ?_); (case side1 => repeat (first | exact (Kd.C_below HR1_2.out HB.out) | (with_reducible refine cA ?_ _) | (with_reducible refine cN ?_ _) | (with_reducible refine cD ?_))); (case side2 => exact HC1_2.out); rintro e w46 ⟨rfl, hb⟩; refine ⟨_, rfl, ?_⟩; replace BK250 := aM (kB (kl BK250) hb); replace BK251 := aM (kB (kl BK251) hb); replace HB := aM (bS (bl) hb); (try clear hb); (try clear hb2); (try clear hk); (try clear hi)))
      go_ret
      exact ⟨by first | rfl | (simp [errW_none, errW_some] <;> rfl) | (simp [*, errW_none, errW_some] <;> rfl), bl⟩
end Go.Proofs.Ytgenbepicnbecaa.PAll
