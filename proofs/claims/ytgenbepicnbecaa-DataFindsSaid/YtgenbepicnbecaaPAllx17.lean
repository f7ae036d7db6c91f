-- out of a driver of this session's prover over the kit's print: Lean checks it
import Derived.Test.YtgenbepicnbecaaPAllx0
namespace Go.Proofs.Ytgenbepicnbecaa.PAll
open Go.Proofs.YtgenbepicnbecaaG Go.Shelf Go.Lib
open Go.RowKit Go.Proofs.YtgenbepicnbecaaW.PrintWords Go.Proofs.YtgenbepicnbecaaW.PrintLast Go.Proofs.YtgenbepicnbecaaW.PrintMore
attribute [local go_sem] max2_int min2_int max_two min_two max_three min_three max_four min_four   -- for this text's walks alone
set_option linter.unusedVariables false
set_option linter.unusedSimpArgs false
def mapmakerref14_Node.l0 : Nat → Int → Int → List (S39) → List (S45) → List (S51) → Option (Int × Int × Int × (List (S70)) × Bool)
 | 0, _, _, _, _, _ => none
 | k + 1, x1, x6, x247000, x247001, x247002 => if x6 < (x247000.length : Int) then (if 0 ≤ x6 then (if ((rd_T39 x247000 x6).f0) = x1 then (some ((rd_T39 x247000 x6).f0, (rd_T39 x247000 x6).f1.f0, (rd_T39 x247000 x6).f1.f1, (rd_T39 x247000 x6).f2, true)) else (mapmakerref14_Node.l0 k x1 (wrap64 (x6 + 1)) x247000 x247001 x247002)) else (none)) else (some (0, 0, 0, ([] : List (S70)), false))
def mapmakerref14_Node.f (k : Nat) (l0_0 : List (S39)) (l0_1 : List (S45)) (l0_2 : List (S51)) (a1 : Int) : Option (Int × Int × Int × (List (S70)) × Bool) := mapmakerref14_Node.l0 k a1 0 l0_0 l0_1 l0_2
theorem mapmakerref14_Node.mono_l : ∀ k, (∀ y0 y1 y2 y3 y4, LeO (mapmakerref14_Node.l0 k y0 y1 y2 y3 y4) (mapmakerref14_Node.l0 (k + 1) y0 y1 y2 y3 y4))
 | 0 => fun _ _ _ _ _ r h => by simp [mapmakerref14_Node.l0] at h
 | k + 1 => by
  have ih0 := mapmakerref14_Node.mono_l k
  ·intro y0 y1 y2 y3 y4
   unfold mapmakerref14_Node.l0
   repeat' first
   | (with_reducible exact ih0 _ _ _ _ _)
   | (with_reducible exact LeO.refl _)
   | (with_reducible exact LeO.none _)
   | (with_reducible refine LeO.ite ?_ ?_)
   | (with_reducible refine LeO.bind ?_ (fun _ => ?_))
   | exact ih0 _ _ _ _ _
   | exact LeO.none _
   | refine LeO.ite ?_ ?_
   | refine LeO.bind ?_ (fun _ => ?_)
theorem mapmakerref14_Node.mono : ∀ a0 a1 a2 a3 k, LeO (mapmakerref14_Node.f k a0 a1 a2 a3) (mapmakerref14_Node.f (k + 1) a0 a1 a2 a3) := by
 intro a0 a1 a2 a3 k
 have ih0 := mapmakerref14_Node.mono_l k
 unfold mapmakerref14_Node.f
 repeat' first
   | (with_reducible exact ih0 _ _ _ _ _)
   | (with_reducible exact LeO.refl _)
   | (with_reducible exact LeO.none _)
   | (with_reducible refine LeO.ite ?_ ?_)
   | (with_reducible refine LeO.bind ?_ (fun _ => ?_))
   | exact ih0 _ _ _ _ _
   | exact LeO.none _
   | refine LeO.ite ?_ ?_
   | refine LeO.bind ?_ (fun _ => ?_)
set_option maxHeartbeats 8000000 in
set_option maxRecDepth 100000 in
theorem mapmakerref14_Node.calls (k : Nat) (P0_0_ : Nat → Prop) (A0_0 : Option Addr) (c0_0 : Nat) (l0_0 : List (S39)) (A0_1 : Option Addr) (c0_1 : Nat) (l0_1 : List (S45)) (A0_2 : Option Addr) (c0_2 : Nat) (l0_2 : List (S51)) (a1 : Int) (r1 : Int) (r2 : Int) (r3 : Int) (r4 : List (S70)) (r5 : Bool) (w : World) (hs0_0 : Kd.V k39 39 w w.heap.size (fun k_ => P0_0_ k_) (.slice A0_0 l0_0.length c0_0) l0_0) (hr0_1 : Kd.C k45 w A0_1 l0_1.length l0_1) (hc0_1 : l0_1.length ≤ c0_1) (hr0_2 : Kd.C k51 w A0_2 l0_2.length l0_2) (hc0_2 : l0_2.length ≤ c0_2) (h : mapmakerref14_Node.f k l0_0 l0_1 l0_2 a1 = some (r1, r2, r3, r4, r5)) :
  Calls Try.prog 13 #[.agg #[.slice A0_0 l0_0.length c0_0, .slice A0_1 l0_1.length c0_1, .slice A0_2 l0_2.length c0_2], .int .i64 a1] w fun e w' => ∃ v3_ : Value, e = .returned (.tuple #[.agg #[.int .i64 r1, .int .i64 r2, .int .i64 r3, v3_], .bool r5]) ∧ Kd.V k70 70 w' w.heap.size (fun k_ => (P0_0_ k_ ∨ w.heap.size ≤ k_)) v3_ r4 ∧ Below w.heap.size w w' := by
 have hu26 := Try.underlying26
 have hu39 := Try.underlying39
 have HO0_0 := aM (show Kd.V k39 39 w w.heap.size (fun k_ => (P0_0_ k_ ∨ w.heap.size ≤ k_)) (.slice A0_0 l0_0.length c0_0) l0_0 from Kd.V_mono hs0_0 (fun k_ hk => .inl hk))
 have HR0_1 := aM hr0_1
 have HC0_1 := aM hc0_1
 clear hr0_1 hc0_1
 have HR0_2 := aM hr0_2
 have HC0_2 := aM hc0_2
 clear hr0_2 hc0_2
 have HB := aM (Below.refl w.heap.size w)
 have H : (mapmakerref14_Node.l0 k a1 0 l0_0 l0_1 l0_2) = some (r1, r2, r3, r4, r5) := h
 clear h
 have H' := aM H
 clear H
 go_enter Try.func13, Try.ntmps13
 go_wp2_with (first | ((with_reducible refine gate_dst (N := 2) rfl ?_); refine bx (N := 2) (cs := #[.slice A0_0 l0_0.length c0_0, .slice A0_1 l0_1.length c0_1, .slice A0_2 l0_2.length c0_2]) (t := 26) ?_; intro gb246 hg w3 hbox hb; have n0_ := aM (Kd.V_below (Kd.V_elderB (by (with_reducible repeat (first | apply Kd.V_alloc | apply Kd.V_drewN | apply Kd.V_drew)); exact HO0_0.out) gb246 (Nat.le_of_eq hg.symm)) hb); have n1_ := aM (bS (bl) hb); have n2_ := aM (hbox); have n4_ := aM (gw (w := w) hg); (try clear HO0_0); (try clear HB); have HO0_0 := n0_; have HB := n1_; have BK246 := n2_; have GE246 := n4_; clear n0_ n1_ n2_ n4_ hb hbox hg) | ((with_reducible refine gate_dst (N := 4) rfl ?_); refine bx (N := 4) (cs := #[.int .i64 0, .int .i64 0, .int .i64 0, .slice none 0 0]) (t := 39) ?_; intro gb247 hg w4 hbox hb; have n0_ := aM (Kd.V_below (Kd.V_elderB (by (with_reducible repeat (first | apply Kd.V_alloc | apply Kd.V_drewN | apply Kd.V_drew)); exact HO0_0.out) gb247 (Nat.le_of_eq hg.symm)) hb); have n1_ := aM (kB (kl BK246) hb); have n2_ := aM (bS (bl) hb); have n3_ := aM (hbox); have n5_ := aM (gw (w := w) hg); have n6_ := aM (nb BK246 hg); have n7_ := aM (nb BK246 hg).symm; (try clear HO0_0); (try clear BK246); (try clear HB); have HO0_0 := n0_; have BK246 := n1_; have HB := n2_; have BK247 := n3_; have GE247 := n5_; have NB246_247 := n6_; have NB247_246 := n7_; clear n0_ n1_ n2_ n3_ n5_ n6_ n7_ hb hbox hg))
 go_loopg [6] k (fun kq v6 w' => ∃ (x6_1 : Int) (x248000_1 : Int) (x248001_1 : Int) (x248002_1 : Int), v6 = .int .i64 x6_1 ∧ Aside0 (mapmakerref14_Node.l0 kq a1 x6_1 l0_0 l0_1 l0_2 = some (r1, r2, r3, r4, r5)) ∧ Aside0 (kq ≤ k) ∧ Aside0 (Kd.V k39 39 w' w.heap.size (fun k_ => (P0_0_ k_ ∨ w.heap.size ≤ k_) ∧ k_ ≠ gb246 ∧ k_ ≠ gb247) (.slice A0_0 l0_0.length c0_0) l0_0) ∧ Aside0 (w'.heap[gb246]? = some (.cells #[(.slice A0_0 l0_0.length c0_0), (.slice A0_1 l0_1.length c0_1), (.slice A0_2 l0_2.length c0_2)] 26 (0, 0))) ∧ Aside0 (w'.heap[gb247]? = some (.cells #[.int .i64 x248000_1, .int .i64 x248001_1, .int .i64 x248002_1, (.slice none 0 0)] 39 (0, 0))) ∧ Aside0 (Below w.heap.size w w'))
 case atStart => exact ⟨(0), (0), (0), (0), (by first | rfl | (simp; done) | (simp [*]; done)), H', ⟨Nat.le_refl _⟩, ⟨by (with_reducible repeat (first | apply Kd.V_alloc | apply Kd.V_drewN | apply Kd.V_drew)); exact Kd.V_mono HO0_0.out (fun _ hk => ⟨hk.1.1, ⟨hk.1.2, hk.2⟩⟩)⟩, ⟨by (with_reducible repeat (first | refine kN ?_ _ | refine kD ?_ | refine kA ?_ _)); exact BK246.out⟩, ⟨by (with_reducible repeat (first | refine kN ?_ _ | refine kD ?_ | refine kA ?_ _)); exact BK247.out⟩, ⟨bl⟩⟩
 case round =>
  clear H'
  try clear c1
  try clear p2
  obtain ⟨x6_1, x248000_1, x248001_1, x248002_1, rfl, HA, HK1, HO_247000, BK246, BK247, HB⟩ := hrel
  cases gk with
  | zero => exact absurd HA.out (by simp [mapmakerref14_Node.l0])
  | succ k1 =>
   have H := HA.out
   clear HA
   simp only [mapmakerref14_Node.l0] at H
   by_cases c5 : x6_1 < (l0_0.length : Int)
   ·rw [if_pos c5] at H
    have c5b0 : decide (x6_1 < (l0_0.length : Int)) = true := decide_eq_true c5
    clear c5
    by_cases c6 : 0 ≤ x6_1
    ·rw [if_pos c6] at H
     have c6b0 : decide (0 ≤ x6_1) = true := decide_eq_true c6
     clear c6
     by_cases c7 : ((rd_T39 l0_0 x6_1).f0) = a1
     ·rw [if_pos c7] at H
      have c7b0 : (((rd_T39 l0_0 x6_1).f0) == a1) = true := beq_iff_eq.mpr c7
      have c7b1 : (((rd_T39 l0_0 x6_1).f0) != a1) = false := bne_eq_false_iff_eq.mpr c7
      clear c7
      simp only [Option.some.injEq, Prod.mk.injEq] at H
      obtain ⟨rfl, rfl, rfl, rfl, rfl⟩ := H
      have hnb8 := NB246_247.out
      have hnc8 := NB247_246.out
      obtain ⟨hcz9_0, hcz9_1, hcz9_2, hfz9_0, hfz9_1, hfz9_2⟩ := bc3 BK246
      have p248 : 0 ≤ (x6_1 : Int) := oT
      have q248 : x6_1 < (l0_0.length : Int) := oT
      obtain ⟨ad248, A248_3, c248_3, e248, hx248_0, hx248_1, hx248_2, hx248_3, hl248_3, hi248_3⟩ := at_T39 (Kd.V_reads' HO_247000.out).2.2 x6_1 p248 q248
      cases e248
      obtain ⟨ce248, hce248, hMe248, hcc248⟩ := Kd.V_get HO_247000.out z39 x6_1 p248 (by first | exact q248 | exact of_decide_eq_true (by first | (with_reducible assumption) | assumption) | (have e_ := (Kd.V_reads' HO_247000.out).1; omega))
      obtain ⟨ua248_3, uc248_3, rfl, ul248_3, ge248_3⟩ := k39_openF hMe248
      have hv248_3 := hcc248 3 _ rfl
      rw [add_field _ _ 3 (by omega)] at hv248_3
      replace hv248_3 := Option.some.inj (hv248_3.symm.trans hx248_3)
      injection hv248_3 with hva_ hvn_ hvc_
      rw [hva_] at ge248_3
      rw [hvc_] at ul248_3
      have HL248_3 := aM (show Kd.V k70 70 _ w.heap.size _ _ ((rd_T39 l0_0 x6_1).f2) from Kd.V_mk ul248_3 ge248_3)
      clear hva_ hvn_ hvc_ ge248_3 ul248_3 hcc248 hce248
      have HR248_3 := aM hi248_3
      have HC248_3 := aM hl248_3
      clear hi248_3 hl248_3
      replace p248 := eq_true p248
      replace q248 := eq_true q248
      have p249 : 0 ≤ (x6_1 : Int) := oT
      have q249 : x6_1 < (l0_0.length : Int) := oT
      obtain ⟨ad249, A249_3, c249_3, e249, hx249_0, hx249_1, hx249_2, hx249_3, hl249_3, hi249_3⟩ := at_T39 (Kd.V_reads' HO_247000.out).2.2 x6_1 p249 q249
      obtain rfl : ad248 = ad249 := (by injection e249)
      obtain ⟨ce249, hce249, hMe249, hcc249⟩ := Kd.V_get HO_247000.out z39 x6_1 p249 (by first | exact q249 | exact of_decide_eq_true (by first | (with_reducible assumption) | assumption) | (have e_ := (Kd.V_reads' HO_247000.out).1; omega))
      obtain ⟨ua249_3, uc249_3, rfl, ul249_3, ge249_3⟩ := k39_openF hMe249
      have hv249_3 := hcc249 3 _ rfl
      rw [add_field _ _ 3 (by omega)] at hv249_3
      replace hv249_3 := Option.some.inj (hv249_3.symm.trans hx249_3)
      injection hv249_3 with hva_ hvn_ hvc_
      rw [hva_] at ge249_3
      rw [hvc_] at ul249_3
      have HL249_3 := aM (show Kd.V k70 70 _ w.heap.size _ _ ((rd_T39 l0_0 x6_1).f2) from Kd.V_mk ul249_3 ge249_3)
      clear hva_ hvn_ hvc_ ge249_3 ul249_3 hcc249 hce249
      have HR249_3 := aM hi249_3
      have HC249_3 := aM hl249_3
      clear hi249_3 hl249_3
      replace p249 := eq_true p249
      replace q249 := eq_true q249
      have ea_ := Option.some.inj (hx248_3.symm.trans hx249_3)
      injection ea_ with ea_ en_ ec_
      subst ea_
      subst ec_
      clear en_
      obtain ⟨hcz10_0, hcz10_1, hcz10_2, hcz10_3, hfz10_0, hfz10_1, hfz10_2, hfz10_3⟩ := bc4 BK247
      go_wp2
      refine bodyPost_ret (results_ct rfl _ _ gb247 39 #[.int .i64 ((rd_T39 l0_0 x6_1).f0), .int .i64 ((rd_T39 l0_0 x6_1).f1.f0), .int .i64 ((rd_T39 l0_0 x6_1).f1.f1), .slice A248_3 ((rd_T39 l0_0 x6_1).f2).length c248_3] (0, 0) _ rfl (by (with_reducible repeat (first | refine kN ?_ _ | refine kD ?_ | refine kA ?_ _)); refine kP (cs := #[.int .i64 ((rd_T39 l0_0 x6_1).f0), .int .i64 ((rd_T39 l0_0 x6_1).f1.f0), .int .i64 ((rd_T39 l0_0 x6_1).f1.f1), .slice none 0 0]) ?_ 3 _ rfl; (with_reducible repeat (first | refine kN ?_ _ | refine kD ?_ | refine kA ?_ _)); refine kP (cs := #[.int .i64 ((rd_T39 l0_0 x6_1).f0), .int .i64 ((rd_T39 l0_0 x6_1).f1.f0), .int .i64 x248002_1, .slice none 0 0]) ?_ 2 _ rfl; (with_reducible repeat (first | refine kN ?_ _ | refine kD ?_ | refine kA ?_ _)); refine kP (cs := #[.int .i64 ((rd_T39 l0_0 x6_1).f0), .int .i64 x248001_1, .int .i64 x248002_1, .slice none 0 0]) ?_ 1 _ rfl; (with_reducible repeat (first | refine kN ?_ _ | refine kD ?_ | refine kA ?_ _)); refine kP (cs := #[.int .i64 x248000_1, .int .i64 x248001_1, .int .i64 x248002_1, .slice none 0 0]) ?_ 0 _ rfl; (with_reducible repeat (first | refine kN ?_ _ | refine kD ?_ | refine kA ?_ _)); exact BK247.out) Try.underlying39 rfl (by kernel_rfl)) rfl ?_
      exact ⟨_, by first | rfl | (simp [errW_none, errW_some] <;> rfl) | (simp [*, errW_none, errW_some] <;> rfl), by (with_reducible repeat (first | apply Kd.V_alloc | apply Kd.V_drewN | apply Kd.V_drew)); exact Kd.V_mono (Kd.V_far (p := ⟨gb247, 3, none⟩) (Kd.V_far (p := ⟨gb247, 2, none⟩) (Kd.V_far (p := ⟨gb247, 1, none⟩) (Kd.V_far (p := ⟨gb247, 0, none⟩) (Kd.V_mono HL249_3.out (fun k_ hk => (⟨hk, hk.2.2⟩ : _ ∧ k_ ≠ gb247))) (fun _ hk => hk.2) (.int .i64 ((rd_T39 l0_0 x6_1).f0))) (fun _ hk => hk.2) (.int .i64 ((rd_T39 l0_0 x6_1).f1.f0))) (fun _ hk => hk.2) (.int .i64 ((rd_T39 l0_0 x6_1).f1.f1))) (fun _ hk => hk.2) (.slice A248_3 ((rd_T39 l0_0 x6_1).f2).length c248_3)) (fun _ hk => hk.1.1), bl⟩
     ·rw [if_neg c7] at H
      have c7b0 : (((rd_T39 l0_0 x6_1).f0) == a1) = false := beq_eq_false_iff_ne.mpr c7
      have c7b1 : (((rd_T39 l0_0 x6_1).f0) != a1) = true := bne_iff_ne.mpr c7
      have H' := aM H
      clear H
      have hnb11 := NB246_247.out
      have hnc11 := NB247_246.out
      obtain ⟨hcz12_0, hcz12_1, hcz12_2, hfz12_0, hfz12_1, hfz12_2⟩ := bc3 BK246
      have p248 : 0 ≤ (x6_1 : Int) := oT
      have q248 : x6_1 < (l0_0.length : Int) := oT
      obtain ⟨ad248, A248_3, c248_3, e248, hx248_0, hx248_1, hx248_2, hx248_3, hl248_3, hi248_3⟩ := at_T39 (Kd.V_reads' HO_247000.out).2.2 x6_1 p248 q248
      cases e248
      obtain ⟨ce248, hce248, hMe248, hcc248⟩ := Kd.V_get HO_247000.out z39 x6_1 p248 (by first | exact q248 | exact of_decide_eq_true (by first | (with_reducible assumption) | assumption) | (have e_ := (Kd.V_reads' HO_247000.out).1; omega))
      obtain ⟨ua248_3, uc248_3, rfl, ul248_3, ge248_3⟩ := k39_openF hMe248
      have hv248_3 := hcc248 3 _ rfl
      rw [add_field _ _ 3 (by omega)] at hv248_3
      replace hv248_3 := Option.some.inj (hv248_3.symm.trans hx248_3)
      injection hv248_3 with hva_ hvn_ hvc_
      rw [hva_] at ge248_3
      rw [hvc_] at ul248_3
      have HL248_3 := aM (show Kd.V k70 70 _ w.heap.size _ _ ((rd_T39 l0_0 x6_1).f2) from Kd.V_mk ul248_3 ge248_3)
      clear hva_ hvn_ hvc_ ge248_3 ul248_3 hcc248 hce248
      have HR248_3 := aM hi248_3
      have HC248_3 := aM hl248_3
      clear hi248_3 hl248_3
      replace p248 := eq_true p248
      replace q248 := eq_true q248
      go_wp2
      go_roundg k1
      case measure => have := HK1.out; omega
      case rel => exact ⟨(wrap64 (x6_1 + 1)), (x248000_1), (x248001_1), (x248002_1), (by first | rfl | (simp; done) | (simp [*]; done)), H', ⟨by have := HK1.out; omega⟩, ⟨by (with_reducible repeat (first | apply Kd.V_alloc | apply Kd.V_drewN | apply Kd.V_drew)); exact HO_247000.out⟩, ⟨by (with_reducible repeat (first | refine kN ?_ _ | refine kD ?_ | refine kA ?_ _)); exact BK246.out⟩, ⟨by (with_reducible repeat (first | refine kN ?_ _ | refine kD ?_ | refine kA ?_ _)); exact BK247.out⟩, ⟨bl⟩⟩
    ·rw [if_neg c6] at H
     exact absurd H (by simp)
   ·rw [if_neg c5] at H
    have c5b0 : decide (x6_1 < (l0_0.length : Int)) = false := decide_eq_false c5
    clear c5
    simp only [Option.some.injEq, Prod.mk.injEq] at H
    obtain ⟨rfl, rfl, rfl, rfl, rfl⟩ := H
    have hnb13 := NB246_247.out
    have hnc13 := NB247_246.out
    obtain ⟨hcz14_0, hcz14_1, hcz14_2, hfz14_0, hfz14_1, hfz14_2⟩ := bc3 BK246
    obtain ⟨hcz15_0, hcz15_1, hcz15_2, hcz15_3, hfz15_0, hfz15_1, hfz15_2, hfz15_3⟩ := bc4 BK247
    go_wp2
    refine bodyPost_ret (results_ct rfl _ _ gb247 39 #[.int .i64 0, .int .i64 0, .int .i64 0, .slice none 0 0] (0, 0) _ rfl (by (with_reducible repeat (first | refine kN ?_ _ | refine kD ?_ | refine kA ?_ _)); refine kP (cs := #[.int .i64 0, .int .i64 0, .int .i64 0, .slice none 0 0]) ?_ 3 _ rfl; (with_reducible repeat (first | refine kN ?_ _ | refine kD ?_ | refine kA ?_ _)); refine kP (cs := #[.int .i64 0, .int .i64 0, .int .i64 x248002_1, .slice none 0 0]) ?_ 2 _ rfl; (with_reducible repeat (first | refine kN ?_ _ | refine kD ?_ | refine kA ?_ _)); refine kP (cs := #[.int .i64 0, .int .i64 x248001_1, .int .i64 x248002_1, .slice none 0 0]) ?_ 1 _ rfl; (with_reducible repeat (first | refine kN ?_ _ | refine kD ?_ | refine kA ?_ _)); refine kP (cs := #[.int .i64 x248000_1, .int .i64 x248001_1, .int .i64 x248002_1, .slice none 0 0]) ?_ 0 _ rfl; (with_reducible repeat (first | refine kN ?_ _ | refine kD ?_ | refine kA ?_ _)); exact BK247.out) Try.underlying39 rfl (by kernel_rfl)) rfl ?_
    exact ⟨_, by first | rfl | (simp [errW_none, errW_some] <;> rfl) | (simp [*, errW_none, errW_some] <;> rfl), Kd.V_nil _ _ _ _ _, bl⟩
end Go.Proofs.Ytgenbepicnbecaa.PAll
