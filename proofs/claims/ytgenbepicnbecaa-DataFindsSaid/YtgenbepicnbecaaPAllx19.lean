-- out of a driver of this session's prover over the kit's print: Lean checks it
import Derived.Test.YtgenbepicnbecaaPAllx0
import Derived.Test.YtgenbepicnbecaaPAllx17
namespace Go.Proofs.Ytgenbepicnbecaa.PAll
open Go.Proofs.YtgenbepicnbecaaG Go.Shelf Go.Lib
open Go.RowKit Go.Proofs.YtgenbepicnbecaaW.PrintWords Go.Proofs.YtgenbepicnbecaaW.PrintLast Go.Proofs.YtgenbepicnbecaaW.PrintMore
attribute [local go_sem] max2_int min2_int max_two min_two max_three min_three max_four min_four   -- for this text's walks alone
set_option linter.unusedVariables false
set_option linter.unusedSimpArgs false
def mapmakerref14_Way.l0 : Nat → Int → Int → List (S39) → List (S45) → List (S51) → Option (Int × List Int × (List (S70)) × Bool)
 | 0, _, _, _, _, _ => none
 | k + 1, x1, x6, x263000, x263001, x263002 => if x6 < (x263001.length : Int) then (if 0 ≤ x6 then (if ((rd_T45 x263001 x6).f0) = x1 then (some ((rd_T45 x263001 x6).f0, (rd_T45 x263001 x6).f1, (rd_T45 x263001 x6).f2, true)) else (mapmakerref14_Way.l0 k x1 (wrap64 (x6 + 1)) x263000 x263001 x263002)) else (none)) else (some (0, ([] : List Int), ([] : List (S70)), false))
def mapmakerref14_Way.f (k : Nat) (l0_0 : List (S39)) (l0_1 : List (S45)) (l0_2 : List (S51)) (a1 : Int) : Option (Int × List Int × (List (S70)) × Bool) := mapmakerref14_Way.l0 k a1 0 l0_0 l0_1 l0_2
theorem mapmakerref14_Way.mono_l : ∀ k, (∀ y0 y1 y2 y3 y4, LeO (mapmakerref14_Way.l0 k y0 y1 y2 y3 y4) (mapmakerref14_Way.l0 (k + 1) y0 y1 y2 y3 y4))
 | 0 => fun _ _ _ _ _ r h => by simp [mapmakerref14_Way.l0] at h
 | k + 1 => by
  have ih0 := mapmakerref14_Way.mono_l k
  ·intro y0 y1 y2 y3 y4
   unfold mapmakerref14_Way.l0
   repeat' first
   | (with_reducible exact ih0 _ _ _ _ _)
   | (with_reducible exact LeO.refl _)
   | (with_reducible exact LeO.none _)
   | (with_reducible refine LeO.ite ?_ ?_)
   | (with_reducible refine LeO.bind ?_ (fun _ => ?_))
   | exact ih0 _ _ _ _ _
   | exact LeO.none _
   | refine LeO.ite ?_ ?_
   | refine LeO.bind ?_ (fun _ => ?_)
theorem mapmakerref14_Way.mono : ∀ a0 a1 a2 a3 k, LeO (mapmakerref14_Way.f k a0 a1 a2 a3) (mapmakerref14_Way.f (k + 1) a0 a1 a2 a3) := by
 intro a0 a1 a2 a3 k
 have ih0 := mapmakerref14_Way.mono_l k
 unfold mapmakerref14_Way.f
 repeat' first
   | (with_reducible exact ih0 _ _ _ _ _)
   | (with_reducible exact LeO.refl _)
   | (with_reducible exact LeO.none _)
   | (with_reducible refine LeO.ite ?_ ?_)
   | (with_reducible refine LeO.bind ?_ (fun _ => ?_))
   | exact ih0 _ _ _ _ _
   | exact LeO.none _
   | refine LeO.ite ?_ ?_
   | refine LeO.bind ?_ (fun _ => ?_)
set_option maxHeartbeats 8000000 in
set_option maxRecDepth 100000 in
theorem mapmakerref14_Way.calls (k : Nat) (A0_0 : Option Addr) (c0_0 : Nat) (l0_0 : List (S39)) (P0_1_ : Nat → Prop) (A0_1 : Option Addr) (c0_1 : Nat) (l0_1 : List (S45)) (A0_2 : Option Addr) (c0_2 : Nat) (l0_2 : List (S51)) (a1 : Int) (r1 : Int) (r2 : List Int) (r3 : List (S70)) (r4 : Bool) (w : World) (hr0_0 : Kd.C k39 w A0_0 l0_0.length l0_0) (hc0_0 : l0_0.length ≤ c0_0) (hs0_1 : Kd.V k45 45 w w.heap.size (fun k_ => P0_1_ k_) (.slice A0_1 l0_1.length c0_1) l0_1) (hr0_2 : Kd.C k51 w A0_2 l0_2.length l0_2) (hc0_2 : l0_2.length ≤ c0_2) (h : mapmakerref14_Way.f k l0_0 l0_1 l0_2 a1 = some (r1, r2, r3, r4)) :
  Calls Try.prog 16 #[.agg #[.slice A0_0 l0_0.length c0_0, .slice A0_1 l0_1.length c0_1, .slice A0_2 l0_2.length c0_2], .int .i64 a1] w fun e w' => ∃ v1_ v2_ : Value, e = .returned (.tuple #[.agg #[.int .i64 r1, v1_, v2_], .bool r4]) ∧ Kd.V (Kd.int .i64) 3 w' w.heap.size (fun k_ => (P0_1_ k_ ∨ w.heap.size ≤ k_)) v1_ r2 ∧ Kd.V k70 70 w' w.heap.size (fun k_ => (P0_1_ k_ ∨ w.heap.size ≤ k_)) v2_ r3 ∧ Below w.heap.size w w' := by
 have hu26 := Try.underlying26
 have hu45 := Try.underlying45
 have HR0_0 := aM hr0_0
 have HC0_0 := aM hc0_0
 clear hr0_0 hc0_0
 have HO0_1 := aM (show Kd.V k45 45 w w.heap.size (fun k_ => (P0_1_ k_ ∨ w.heap.size ≤ k_)) (.slice A0_1 l0_1.length c0_1) l0_1 from Kd.V_mono hs0_1 (fun k_ hk => .inl hk))
 have HR0_2 := aM hr0_2
 have HC0_2 := aM hc0_2
 clear hr0_2 hc0_2
 have HB := aM (Below.refl w.heap.size w)
 have H : (mapmakerref14_Way.l0 k a1 0 l0_0 l0_1 l0_2) = some (r1, r2, r3, r4) := h
 clear h
 have H' := aM H
 clear H
 go_enter Try.func16, Try.ntmps16
 go_wp2_with (first | ((with_reducible refine gate_dst (N := 2) rfl ?_); refine bx (N := 2) (cs := #[.slice A0_0 l0_0.length c0_0, .slice A0_1 l0_1.length c0_1, .slice A0_2 l0_2.length c0_2]) (t := 26) ?_; intro gb262 hg w3 hbox hb; have n0_ := aM (Kd.V_below (Kd.V_elderB (by (with_reducible repeat (first | apply Kd.V_alloc | apply Kd.V_drewN | apply Kd.V_drew)); exact HO0_1.out) gb262 (Nat.le_of_eq hg.symm)) hb); have n1_ := aM (bS (bl) hb); have n2_ := aM (hbox); have n4_ := aM (gw (w := w) hg); (try clear HO0_1); (try clear HB); have HO0_1 := n0_; have HB := n1_; have BK262 := n2_; have GE262 := n4_; clear n0_ n1_ n2_ n4_ hb hbox hg) | ((with_reducible refine gate_dst (N := 4) rfl ?_); refine bx (N := 4) (cs := #[.int .i64 0, .slice none 0 0, .slice none 0 0]) (t := 45) ?_; intro gb263 hg w4 hbox hb; have n0_ := aM (Kd.V_below (Kd.V_elderB (by (with_reducible repeat (first | apply Kd.V_alloc | apply Kd.V_drewN | apply Kd.V_drew)); exact HO0_1.out) gb263 (Nat.le_of_eq hg.symm)) hb); have n1_ := aM (kB (kl BK262) hb); have n2_ := aM (bS (bl) hb); have n3_ := aM (hbox); have n5_ := aM (gw (w := w) hg); have n6_ := aM (nb BK262 hg); have n7_ := aM (nb BK262 hg).symm; (try clear HO0_1); (try clear BK262); (try clear HB); have HO0_1 := n0_; have BK262 := n1_; have HB := n2_; have BK263 := n3_; have GE263 := n5_; have NB262_263 := n6_; have NB263_262 := n7_; clear n0_ n1_ n2_ n3_ n5_ n6_ n7_ hb hbox hg))
 go_loopg [6] k (fun kq v6 w' => ∃ (x6_1 : Int) (x264000_1 : Int), v6 = .int .i64 x6_1 ∧ Aside0 (mapmakerref14_Way.l0 kq a1 x6_1 l0_0 l0_1 l0_2 = some (r1, r2, r3, r4)) ∧ Aside0 (kq ≤ k) ∧ Aside0 (Kd.V k45 45 w' w.heap.size (fun k_ => (P0_1_ k_ ∨ w.heap.size ≤ k_) ∧ k_ ≠ gb262 ∧ k_ ≠ gb263) (.slice A0_1 l0_1.length c0_1) l0_1) ∧ Aside0 (w'.heap[gb262]? = some (.cells #[(.slice A0_0 l0_0.length c0_0), (.slice A0_1 l0_1.length c0_1), (.slice A0_2 l0_2.length c0_2)] 26 (0, 0))) ∧ Aside0 (w'.heap[gb263]? = some (.cells #[.int .i64 x264000_1, (.slice none 0 0), (.slice none 0 0)] 45 (0, 0))) ∧ Aside0 (Below w.heap.size w w'))
 case atStart => exact ⟨(0), (0), (by first | rfl | (simp; done) | (simp [*]; done)), H', ⟨Nat.le_refl _⟩, ⟨by (with_reducible repeat (first | apply Kd.V_alloc | apply Kd.V_drewN | apply Kd.V_drew)); exact Kd.V_mono HO0_1.out (fun _ hk => ⟨hk.1.1, ⟨hk.1.2, hk.2⟩⟩)⟩, ⟨by (with_reducible repeat (first | refine kN ?_ _ | refine kD ?_ | refine kA ?_ _)); exact BK262.out⟩, ⟨by (with_reducible repeat (first | refine kN ?_ _ | refine kD ?_ | refine kA ?_ _)); exact BK263.out⟩, ⟨bl⟩⟩
 case round =>
  clear H'
  try clear c1
  try clear p2
  obtain ⟨x6_1, x264000_1, rfl, HA, HK1, HO_263001, BK262, BK263, HB⟩ := hrel
  cases gk with
  | zero => exact absurd HA.out (by simp [mapmakerref14_Way.l0])
  | succ k1 =>
   have H := HA.out
   clear HA
   simp only [mapmakerref14_Way.l0] at H
   by_cases c5 : x6_1 < (l0_1.length : Int)
   ·rw [if_pos c5] at H
    have c5b0 : decide (x6_1 < (l0_1.length : Int)) = true := decide_eq_true c5
    clear c5
    by_cases c6 : 0 ≤ x6_1
    ·rw [if_pos c6] at H
     have c6b0 : decide (0 ≤ x6_1) = true := decide_eq_true c6
     clear c6
     by_cases c7 : ((rd_T45 l0_1 x6_1).f0) = a1
     ·rw [if_pos c7] at H
      have c7b0 : (((rd_T45 l0_1 x6_1).f0) == a1) = true := beq_iff_eq.mpr c7
      have c7b1 : (((rd_T45 l0_1 x6_1).f0) != a1) = false := bne_eq_false_iff_eq.mpr c7
      clear c7
      simp only [Option.some.injEq, Prod.mk.injEq] at H
      obtain ⟨rfl, rfl, rfl, rfl⟩ := H
      have hnb8 := NB262_263.out
      have hnc8 := NB263_262.out
      obtain ⟨hcz9_0, hcz9_1, hcz9_2, hfz9_0, hfz9_1, hfz9_2⟩ := bc3 BK262
      have p264 : 0 ≤ (x6_1 : Int) := oT
      have q264 : x6_1 < (l0_1.length : Int) := oT
      obtain ⟨ad264, A264_1, c264_1, A264_2, c264_2, e264, hx264_0, hx264_1, hx264_2, hl264_1, hi264_1, hl264_2, hi264_2⟩ := at_T45 (Kd.V_reads' HO_263001.out).2.2 x6_1 p264 q264
      cases e264
      obtain ⟨ce264, hce264, hMe264, hcc264⟩ := Kd.V_get HO_263001.out z45 x6_1 p264 (by first | exact q264 | exact of_decide_eq_true (by first | (with_reducible assumption) | assumption) | (have e_ := (Kd.V_reads' HO_263001.out).1; omega))
      obtain ⟨ua264_1, uc264_1, ua264_2, uc264_2, rfl, ul264_1, ge264_1, ul264_2, ge264_2⟩ := k45_openF hMe264
      have hv264_1 := hcc264 1 _ rfl
      rw [add_field _ _ 1 (by omega)] at hv264_1
      replace hv264_1 := Option.some.inj (hv264_1.symm.trans hx264_1)
      injection hv264_1 with hva_ hvn_ hvc_
      rw [hva_] at ge264_1
      rw [hvc_] at ul264_1
      have HL264_1 := aM (show Kd.V (Kd.int .i64) 3 _ w.heap.size _ _ ((rd_T45 l0_1 x6_1).f1) from Kd.V_mk ul264_1 ge264_1)
      clear hva_ hvn_ hvc_ ge264_1 ul264_1
      have hv264_2 := hcc264 2 _ rfl
      rw [add_field _ _ 2 (by omega)] at hv264_2
      replace hv264_2 := Option.some.inj (hv264_2.symm.trans hx264_2)
      injection hv264_2 with hva_ hvn_ hvc_
      rw [hva_] at ge264_2
      rw [hvc_] at ul264_2
      have HL264_2 := aM (show Kd.V k70 70 _ w.heap.size _ _ ((rd_T45 l0_1 x6_1).f2) from Kd.V_mk ul264_2 ge264_2)
      clear hva_ hvn_ hvc_ ge264_2 ul264_2 hcc264 hce264
      have HR264_1 := aM hi264_1
      have HC264_1 := aM hl264_1
      clear hi264_1 hl264_1
      have HR264_2 := aM hi264_2
      have HC264_2 := aM hl264_2
      clear hi264_2 hl264_2
      replace p264 := eq_true p264
      replace q264 := eq_true q264
      have p265 : 0 ≤ (x6_1 : Int) := oT
      have q265 : x6_1 < (l0_1.length : Int) := oT
      obtain ⟨ad265, A265_1, c265_1, A265_2, c265_2, e265, hx265_0, hx265_1, hx265_2, hl265_1, hi265_1, hl265_2, hi265_2⟩ := at_T45 (Kd.V_reads' HO_263001.out).2.2 x6_1 p265 q265
      obtain rfl : ad264 = ad265 := (by injection e265)
      obtain ⟨ce265, hce265, hMe265, hcc265⟩ := Kd.V_get HO_263001.out z45 x6_1 p265 (by first | exact q265 | exact of_decide_eq_true (by first | (with_reducible assumption) | assumption) | (have e_ := (Kd.V_reads' HO_263001.out).1; omega))
      obtain ⟨ua265_1, uc265_1, ua265_2, uc265_2, rfl, ul265_1, ge265_1, ul265_2, ge265_2⟩ := k45_openF hMe265
      have hv265_1 := hcc265 1 _ rfl
      rw [add_field _ _ 1 (by omega)] at hv265_1
      replace hv265_1 := Option.some.inj (hv265_1.symm.trans hx265_1)
      injection hv265_1 with hva_ hvn_ hvc_
      rw [hva_] at ge265_1
      rw [hvc_] at ul265_1
      have HL265_1 := aM (show Kd.V (Kd.int .i64) 3 _ w.heap.size _ _ ((rd_T45 l0_1 x6_1).f1) from Kd.V_mk ul265_1 ge265_1)
      clear hva_ hvn_ hvc_ ge265_1 ul265_1
      have hv265_2 := hcc265 2 _ rfl
      rw [add_field _ _ 2 (by omega)] at hv265_2
      replace hv265_2 := Option.some.inj (hv265_2.symm.trans hx265_2)
      injection hv265_2 with hva_ hvn_ hvc_
      rw [hva_] at ge265_2
      rw [hvc_] at ul265_2
      have HL265_2 := aM (show Kd.V k70 70 _ w.heap.size _ _ ((rd_T45 l0_1 x6_1).f2) from Kd.V_mk ul265_2 ge265_2)
      clear hva_ hvn_ hvc_ ge265_2 ul265_2 hcc265 hce265
      have HR265_1 := aM hi265_1
      have HC265_1 := aM hl265_1
      clear hi265_1 hl265_1
      have HR265_2 := aM hi265_2
      have HC265_2 := aM hl265_2
      clear hi265_2 hl265_2
      replace p265 := eq_true p265
      replace q265 := eq_true q265
      have ea_ := Option.some.inj (hx264_1.symm.trans hx265_1)
      injection ea_ with ea_ en_ ec_
      subst ea_
      subst ec_
      clear en_
      have ea_ := Option.some.inj (hx264_2.symm.trans hx265_2)
      injection ea_ with ea_ en_ ec_
      subst ea_
      subst ec_
      clear en_
      obtain ⟨hcz10_0, hcz10_1, hcz10_2, hfz10_0, hfz10_1, hfz10_2⟩ := bc3 BK263
      go_wp2
      refine bodyPost_ret (results_ct rfl _ _ gb263 45 #[.int .i64 ((rd_T45 l0_1 x6_1).f0), .slice A264_1 ((rd_T45 l0_1 x6_1).f1).length c264_1, .slice A264_2 ((rd_T45 l0_1 x6_1).f2).length c264_2] (0, 0) _ rfl (by (with_reducible repeat (first | refine kN ?_ _ | refine kD ?_ | refine kA ?_ _)); refine kP (cs := #[.int .i64 ((rd_T45 l0_1 x6_1).f0), .slice A264_1 ((rd_T45 l0_1 x6_1).f1).length c264_1, .slice none 0 0]) ?_ 2 _ rfl; (with_reducible repeat (first | refine kN ?_ _ | refine kD ?_ | refine kA ?_ _)); refine kP (cs := #[.int .i64 ((rd_T45 l0_1 x6_1).f0), .slice none 0 0, .slice none 0 0]) ?_ 1 _ rfl; (with_reducible repeat (first | refine kN ?_ _ | refine kD ?_ | refine kA ?_ _)); refine kP (cs := #[.int .i64 x264000_1, .slice none 0 0, .slice none 0 0]) ?_ 0 _ rfl; (with_reducible repeat (first | refine kN ?_ _ | refine kD ?_ | refine kA ?_ _)); exact BK263.out) Try.underlying45 rfl (by kernel_rfl)) rfl ?_
      exact ⟨_, _, by first | rfl | (simp [errW_none, errW_some] <;> rfl) | (simp [*, errW_none, errW_some] <;> rfl), by (with_reducible repeat (first | apply Kd.V_alloc | apply Kd.V_drewN | apply Kd.V_drew)); exact Kd.V_mono (Kd.V_far (p := ⟨gb263, 2, none⟩) (Kd.V_far (p := ⟨gb263, 1, none⟩) (Kd.V_far (p := ⟨gb263, 0, none⟩) (Kd.V_mono HL265_1.out (fun k_ hk => (⟨hk, hk.2.2⟩ : _ ∧ k_ ≠ gb263))) (fun _ hk => hk.2) (.int .i64 ((rd_T45 l0_1 x6_1).f0))) (fun _ hk => hk.2) (.slice A264_1 ((rd_T45 l0_1 x6_1).f1).length c264_1)) (fun _ hk => hk.2) (.slice A264_2 ((rd_T45 l0_1 x6_1).f2).length c264_2)) (fun _ hk => hk.1.1), by (with_reducible repeat (first | apply Kd.V_alloc | apply Kd.V_drewN | apply Kd.V_drew)); exact Kd.V_mono (Kd.V_far (p := ⟨gb263, 2, none⟩) (Kd.V_far (p := ⟨gb263, 1, none⟩) (Kd.V_far (p := ⟨gb263, 0, none⟩) (Kd.V_mono HL265_2.out (fun k_ hk => (⟨hk, hk.2.2⟩ : _ ∧ k_ ≠ gb263))) (fun _ hk => hk.2) (.int .i64 ((rd_T45 l0_1 x6_1).f0))) (fun _ hk => hk.2) (.slice A264_1 ((rd_T45 l0_1 x6_1).f1).length c264_1)) (fun _ hk => hk.2) (.slice A264_2 ((rd_T45 l0_1 x6_1).f2).length c264_2)) (fun _ hk => hk.1.1), bl⟩
     ·rw [if_neg c7] at H
      have c7b0 : (((rd_T45 l0_1 x6_1).f0) == a1) = false := beq_eq_false_iff_ne.mpr c7
      have c7b1 : (((rd_T45 l0_1 x6_1).f0) != a1) = true := bne_iff_ne.mpr c7
      have H' := aM H
      clear H
      have hnb11 := NB262_263.out
      have hnc11 := NB263_262.out
      obtain ⟨hcz12_0, hcz12_1, hcz12_2, hfz12_0, hfz12_1, hfz12_2⟩ := bc3 BK262
      have p264 : 0 ≤ (x6_1 : Int) := oT
      have q264 : x6_1 < (l0_1.length : Int) := oT
      obtain ⟨ad264, A264_1, c264_1, A264_2, c264_2, e264, hx264_0, hx264_1, hx264_2, hl264_1, hi264_1, hl264_2, hi264_2⟩ := at_T45 (Kd.V_reads' HO_263001.out).2.2 x6_1 p264 q264
      cases e264
      obtain ⟨ce264, hce264, hMe264, hcc264⟩ := Kd.V_get HO_263001.out z45 x6_1 p264 (by first | exact q264 | exact of_decide_eq_true (by first | (with_reducible assumption) | assumption) | (have e_ := (Kd.V_reads' HO_263001.out).1; omega))
      obtain ⟨ua264_1, uc264_1, ua264_2, uc264_2, rfl, ul264_1, ge264_1, ul264_2, ge264_2⟩ := k45_openF hMe264
      have hv264_1 := hcc264 1 _ rfl
      rw [add_field _ _ 1 (by omega)] at hv264_1
      replace hv264_1 := Option.some.inj (hv264_1.symm.trans hx264_1)
      injection hv264_1 with hva_ hvn_ hvc_
      rw [hva_] at ge264_1
      rw [hvc_] at ul264_1
      have HL264_1 := aM (show Kd.V (Kd.int .i64) 3 _ w.heap.size _ _ ((rd_T45 l0_1 x6_1).f1) from Kd.V_mk ul264_1 ge264_1)
      clear hva_ hvn_ hvc_ ge264_1 ul264_1
      have hv264_2 := hcc264 2 _ rfl
      rw [add_field _ _ 2 (by omega)] at hv264_2
      replace hv264_2 := Option.some.inj (hv264_2.symm.trans hx264_2)
      injection hv264_2 with hva_ hvn_ hvc_
      rw [hva_] at ge264_2
      rw [hvc_] at ul264_2
      have HL264_2 := aM (show Kd.V k70 70 _ w.heap.size _ _ ((rd_T45 l0_1 x6_1).f2) from Kd.V_mk ul264_2 ge264_2)
      clear hva_ hvn_ hvc_ ge264_2 ul264_2 hcc264 hce264
      have HR264_1 := aM hi264_1
      have HC264_1 := aM hl264_1
      clear hi264_1 hl264_1
      have HR264_2 := aM hi264_2
      have HC264_2 := aM hl264_2
      clear hi264_2 hl264_2
      replace p264 := eq_true p264
      replace q264 := eq_true q264
      go_wp2
      go_roundg k1
      case measure => have := HK1.out; omega
      case rel => exact ⟨(wrap64 (x6_1 + 1)), (x264000_1), (by first | rfl | (simp; done) | (simp [*]; done)), H', ⟨by have := HK1.out; omega⟩, ⟨by (with_reducible repeat (first | apply Kd.V_alloc | apply Kd.V_drewN | apply Kd.V_drew)); exact HO_263001.out⟩, ⟨by (with_reducible repeat (first | refine kN ?_ _ | refine kD ?_ | refine kA ?_ _)); exact BK262.out⟩, ⟨by (with_reducible repeat (first | refine kN ?_ _ | refine kD ?_ | refine kA ?_ _)); exact BK263.out⟩, ⟨bl⟩⟩
    ·rw [if_neg c6] at H
     exact absurd H (by simp)
   ·rw [if_neg c5] at H
    have c5b0 : decide (x6_1 < (l0_1.length : Int)) = false := decide_eq_false c5
    clear c5
    simp only [Option.some.injEq, Prod.mk.injEq] at H
    obtain ⟨rfl, rfl, rfl, rfl⟩ := H
    have hnb13 := NB262_263.out
    have hnc13 := NB263_262.out
    obtain ⟨hcz14_0, hcz14_1, hcz14_2, hfz14_0, hfz14_1, hfz14_2⟩ := bc3 BK262
    obtain ⟨hcz15_0, hcz15_1, hcz15_2, hfz15_0, hfz15_1, hfz15_2⟩ := bc3 BK263
    go_wp2
    refine bodyPost_ret (results_ct rfl _ _ gb263 45 #[.int .i64 0, .slice none 0 0, .slice none 0 0] (0, 0) _ rfl (by (with_reducible repeat (first | refine kN ?_ _ | refine kD ?_ | refine kA ?_ _)); refine kP (cs := #[.int .i64 0, .slice none 0 0, .slice none 0 0]) ?_ 2 _ rfl; (with_reducible repeat (first | refine kN ?_ _ | refine kD ?_ | refine kA ?_ _)); refine kP (cs := #[.int .i64 0, .slice none 0 0, .slice none 0 0]) ?_ 1 _ rfl; (with_reducible repeat (first | refine kN ?_ _ | refine kD ?_ | refine kA ?_ _)); refine kP (cs := #[.int .i64 x264000_1, .slice none 0 0, .slice none 0 0]) ?_ 0 _ rfl; (with_reducible repeat (first | refine kN ?_ _ | refine kD ?_ | refine kA ?_ _)); exact BK263.out) Try.underlying45 rfl (by kernel_rfl)) rfl ?_
    exact ⟨_, _, by first | rfl | (simp [errW_none, errW_some] <;> rfl) | (simp [*, errW_none, errW_some] <;> rfl), Kd.V_nil _ _ _ _ _, Kd.V_nil _ _ _ _ _, bl⟩
def mapmakerref14_Rel.l0 : Nat → Int → Int → List (S39) → List (S45) → List (S51) → Option (Int × (List (S67)) × (List (S70)) × Bool)
 | 0, _, _, _, _, _ => none
 | k + 1, x1, x6, x267000, x267001, x267002 => if x6 < (x267002.length : Int) then (if 0 ≤ x6 then (if ((rd_T51 x267002 x6).f0) = x1 then (some ((rd_T51 x267002 x6).f0, (rd_T51 x267002 x6).f1, (rd_T51 x267002 x6).f2, true)) else (mapmakerref14_Rel.l0 k x1 (wrap64 (x6 + 1)) x267000 x267001 x267002)) else (none)) else (some (0, ([] : List (S67)), ([] : List (S70)), false))
def mapmakerref14_Rel.f (k : Nat) (l0_0 : List (S39)) (l0_1 : List (S45)) (l0_2 : List (S51)) (a1 : Int) : Option (Int × (List (S67)) × (List (S70)) × Bool) := mapmakerref14_Rel.l0 k a1 0 l0_0 l0_1 l0_2
theorem mapmakerref14_Rel.mono_l : ∀ k, (∀ y0 y1 y2 y3 y4, LeO (mapmakerref14_Rel.l0 k y0 y1 y2 y3 y4) (mapmakerref14_Rel.l0 (k + 1) y0 y1 y2 y3 y4))
 | 0 => fun _ _ _ _ _ r h => by simp [mapmakerref14_Rel.l0] at h
 | k + 1 => by
  have ih0 := mapmakerref14_Rel.mono_l k
  ·intro y0 y1 y2 y3 y4
   unfold mapmakerref14_Rel.l0
   repeat' first
   | (with_reducible exact ih0 _ _ _ _ _)
   | (with_reducible exact LeO.refl _)
   | (with_reducible exact LeO.none _)
   | (with_reducible refine LeO.ite ?_ ?_)
   | (with_reducible refine LeO.bind ?_ (fun _ => ?_))
   | exact ih0 _ _ _ _ _
   | exact LeO.none _
   | refine LeO.ite ?_ ?_
   | refine LeO.bind ?_ (fun _ => ?_)
theorem mapmakerref14_Rel.mono : ∀ a0 a1 a2 a3 k, LeO (mapmakerref14_Rel.f k a0 a1 a2 a3) (mapmakerref14_Rel.f (k + 1) a0 a1 a2 a3) := by
 intro a0 a1 a2 a3 k
 have ih0 := mapmakerref14_Rel.mono_l k
 unfold mapmakerref14_Rel.f
 repeat' first
   | (with_reducible exact ih0 _ _ _ _ _)
   | (with_reducible exact LeO.refl _)
   | (with_reducible exact LeO.none _)
   | (with_reducible refine LeO.ite ?_ ?_)
   | (with_reducible refine LeO.bind ?_ (fun _ => ?_))
   | exact ih0 _ _ _ _ _
   | exact LeO.none _
   | refine LeO.ite ?_ ?_
   | refine LeO.bind ?_ (fun _ => ?_)
set_option maxHeartbeats 8000000 in
set_option maxRecDepth 100000 in
theorem mapmakerref14_Rel.calls (k : Nat) (A0_0 : Option Addr) (c0_0 : Nat) (l0_0 : List (S39)) (A0_1 : Option Addr) (c0_1 : Nat) (l0_1 : List (S45)) (P0_2_ : Nat → Prop) (A0_2 : Option Addr) (c0_2 : Nat) (l0_2 : List (S51)) (a1 : Int) (r1 : Int) (r2 : List (S67)) (r3 : List (S70)) (r4 : Bool) (w : World) (hr0_0 : Kd.C k39 w A0_0 l0_0.length l0_0) (hc0_0 : l0_0.length ≤ c0_0) (hr0_1 : Kd.C k45 w A0_1 l0_1.length l0_1) (hc0_1 : l0_1.length ≤ c0_1) (hs0_2 : Kd.V k51 51 w w.heap.size (fun k_ => P0_2_ k_) (.slice A0_2 l0_2.length c0_2) l0_2) (h : mapmakerref14_Rel.f k l0_0 l0_1 l0_2 a1 = some (r1, r2, r3, r4)) :
  Calls Try.prog 19 #[.agg #[.slice A0_0 l0_0.length c0_0, .slice A0_1 l0_1.length c0_1, .slice A0_2 l0_2.length c0_2], .int .i64 a1] w fun e w' => ∃ v1_ v2_ : Value, e = .returned (.tuple #[.agg #[.int .i64 r1, v1_, v2_], .bool r4]) ∧ Kd.V k67 67 w' w.heap.size (fun k_ => (P0_2_ k_ ∨ w.heap.size ≤ k_)) v1_ r2 ∧ Kd.V k70 70 w' w.heap.size (fun k_ => (P0_2_ k_ ∨ w.heap.size ≤ k_)) v2_ r3 ∧ Below w.heap.size w w' := by
 have hu26 := Try.underlying26
 have hu51 := Try.underlying51
 have HR0_0 := aM hr0_0
 have HC0_0 := aM hc0_0
 clear hr0_0 hc0_0
 have HR0_1 := aM hr0_1
 have HC0_1 := aM hc0_1
 clear hr0_1 hc0_1
 have HO0_2 := aM (show Kd.V k51 51 w w.heap.size (fun k_ => (P0_2_ k_ ∨ w.heap.size ≤ k_)) (.slice A0_2 l0_2.length c0_2) l0_2 from Kd.V_mono hs0_2 (fun k_ hk => .inl hk))
 have HB := aM (Below.refl w.heap.size w)
 have H : (mapmakerref14_Rel.l0 k a1 0 l0_0 l0_1 l0_2) = some (r1, r2, r3, r4) := h
 clear h
 have H' := aM H
 clear H
 go_enter Try.func19, Try.ntmps19
 go_wp2_with (first | ((with_reducible refine gate_dst (N := 2) rfl ?_); refine bx (N := 2) (cs := #[.slice A0_0 l0_0.length c0_0, .slice A0_1 l0_1.length c0_1, .slice A0_2 l0_2.length c0_2]) (t := 26) ?_; intro gb266 hg w3 hbox hb; have n0_ := aM (Kd.V_below (Kd.V_elderB (by (with_reducible repeat (first | apply Kd.V_alloc | apply Kd.V_drewN | apply Kd.V_drew)); exact HO0_2.out) gb266 (Nat.le_of_eq hg.symm)) hb); have n1_ := aM (bS (bl) hb); have n2_ := aM (hbox); have n4_ := aM (gw (w := w) hg); (try clear HO0_2); (try clear HB); have HO0_2 := n0_; have HB := n1_; have BK266 := n2_; have GE266 := n4_; clear n0_ n1_ n2_ n4_ hb hbox hg) | ((with_reducible refine gate_dst (N := 4) rfl ?_); refine bx (N := 4) (cs := #[.int .i64 0, .slice none 0 0, .slice none 0 0]) (t := 51) ?_; intro gb267 hg w4 hbox hb; have n0_ := aM (Kd.V_below (Kd.V_elderB (by (with_reducible repeat (first | apply Kd.V_alloc | apply Kd.V_drewN | apply Kd.V_drew)); exact HO0_2.out) gb267 (Nat.le_of_eq hg.symm)) hb); have n1_ := aM (kB (kl BK266) hb); have n2_ := aM (bS (bl) hb); have n3_ := aM (hbox); have n5_ := aM (gw (w := w) hg); have n6_ := aM (nb BK266 hg); have n7_ := aM (nb BK266 hg).symm; (try clear HO0_2); (try clear BK266); (try clear HB); have HO0_2 := n0_; have BK266 := n1_; have HB := n2_; have BK267 := n3_; have GE267 := n5_; have NB266_267 := n6_; have NB267_266 := n7_; clear n0_ n1_ n2_ n3_ n5_ n6_ n7_ hb hbox hg))
 go_loopg [6] k (fun kq v6 w' => ∃ (x6_1 : Int) (x268000_1 : Int), v6 = .int .i64 x6_1 ∧ Aside0 (mapmakerref14_Rel.l0 kq a1 x6_1 l0_0 l0_1 l0_2 = some (r1, r2, r3, r4)) ∧ Aside0 (kq ≤ k) ∧ Aside0 (Kd.V k51 51 w' w.heap.size (fun k_ => (P0_2_ k_ ∨ w.heap.size ≤ k_) ∧ k_ ≠ gb266 ∧ k_ ≠ gb267) (.slice A0_2 l0_2.length c0_2) l0_2) ∧ Aside0 (w'.heap[gb266]? = some (.cells #[(.slice A0_0 l0_0.length c0_0), (.slice A0_1 l0_1.length c0_1), (.slice A0_2 l0_2.length c0_2)] 26 (0, 0))) ∧ Aside0 (w'.heap[gb267]? = some (.cells #[.int .i64 x268000_1, (.slice none 0 0), (.slice none 0 0)] 51 (0, 0))) ∧ Aside0 (Below w.heap.size w w'))
 case atStart => exact ⟨(0), (0), (by first | rfl | (simp; done) | (simp [*]; done)), H', ⟨Nat.le_refl _⟩, ⟨by (with_reducible repeat (first | apply Kd.V_alloc | apply Kd.V_drewN | apply Kd.V_drew)); exact Kd.V_mono HO0_2.out (fun _ hk => ⟨hk.1.1, ⟨hk.1.2, hk.2⟩⟩)⟩, ⟨by (with_reducible repeat (first | refine kN ?_ _ | refine kD ?_ | refine kA ?_ _)); exact BK266.out⟩, ⟨by (with_reducible repeat (first | refine kN ?_ _ | refine kD ?_ | refine kA ?_ _)); exact BK267.out⟩, ⟨bl⟩⟩
 case round =>
  clear H'
  try clear c1
  try clear p2
  obtain ⟨x6_1, x268000_1, rfl, HA, HK1, HO_267002, BK266, BK267, HB⟩ := hrel
  cases gk with
  | zero => exact absurd HA.out (by simp [mapmakerref14_Rel.l0])
  | succ k1 =>
   have H := HA.out
   clear HA
   simp only [mapmakerref14_Rel.l0] at H
   by_cases c5 : x6_1 < (l0_2.length : Int)
   ·rw [if_pos c5] at H
    have c5b0 : decide (x6_1 < (l0_2.length : Int)) = true := decide_eq_true c5
    clear c5
    by_cases c6 : 0 ≤ x6_1
    ·rw [if_pos c6] at H
     have c6b0 : decide (0 ≤ x6_1) = true := decide_eq_true c6
     clear c6
     by_cases c7 : ((rd_T51 l0_2 x6_1).f0) = a1
     ·rw [if_pos c7] at H
      have c7b0 : (((rd_T51 l0_2 x6_1).f0) == a1) = true := beq_iff_eq.mpr c7
      have c7b1 : (((rd_T51 l0_2 x6_1).f0) != a1) = false := bne_eq_false_iff_eq.mpr c7
      clear c7
      simp only [Option.some.injEq, Prod.mk.injEq] at H
      obtain ⟨rfl, rfl, rfl, rfl⟩ := H
      have hnb8 := NB266_267.out
      have hnc8 := NB267_266.out
      obtain ⟨hcz9_0, hcz9_1, hcz9_2, hfz9_0, hfz9_1, hfz9_2⟩ := bc3 BK266
      have p268 : 0 ≤ (x6_1 : Int) := oT
      have q268 : x6_1 < (l0_2.length : Int) := oT
      obtain ⟨ad268, A268_1, c268_1, A268_2, c268_2, e268, hx268_0, hx268_1, hx268_2, hl268_1, hi268_1, hl268_2, hi268_2⟩ := at_T51 (Kd.V_reads' HO_267002.out).2.2 x6_1 p268 q268
      cases e268
      obtain ⟨ce268, hce268, hMe268, hcc268⟩ := Kd.V_get HO_267002.out z51 x6_1 p268 (by first | exact q268 | exact of_decide_eq_true (by first | (with_reducible assumption) | assumption) | (have e_ := (Kd.V_reads' HO_267002.out).1; omega))
      obtain ⟨ua268_1, uc268_1, ua268_2, uc268_2, rfl, ul268_1, ge268_1, ul268_2, ge268_2⟩ := k51_openF hMe268
      have hv268_1 := hcc268 1 _ rfl
      rw [add_field _ _ 1 (by omega)] at hv268_1
      replace hv268_1 := Option.some.inj (hv268_1.symm.trans hx268_1)
      injection hv268_1 with hva_ hvn_ hvc_
      rw [hva_] at ge268_1
      rw [hvc_] at ul268_1
      have HL268_1 := aM (show Kd.V k67 67 _ w.heap.size _ _ ((rd_T51 l0_2 x6_1).f1) from Kd.V_mk ul268_1 ge268_1)
      clear hva_ hvn_ hvc_ ge268_1 ul268_1
      have hv268_2 := hcc268 2 _ rfl
      rw [add_field _ _ 2 (by omega)] at hv268_2
      replace hv268_2 := Option.some.inj (hv268_2.symm.trans hx268_2)
      injection hv268_2 with hva_ hvn_ hvc_
      rw [hva_] at ge268_2
      rw [hvc_] at ul268_2
      have HL268_2 := aM (show Kd.V k70 70 _ w.heap.size _ _ ((rd_T51 l0_2 x6_1).f2) from Kd.V_mk ul268_2 ge268_2)
      clear hva_ hvn_ hvc_ ge268_2 ul268_2 hcc268 hce268
      have HR268_1 := aM hi268_1
      have HC268_1 := aM hl268_1
      clear hi268_1 hl268_1
      have HR268_2 := aM hi268_2
      have HC268_2 := aM hl268_2
      clear hi268_2 hl268_2
      replace p268 := eq_true p268
      replace q268 := eq_true q268
      have p269 : 0 ≤ (x6_1 : Int) := oT
      have q269 : x6_1 < (l0_2.length : Int) := oT
      obtain ⟨ad269, A269_1, c269_1, A269_2, c269_2, e269, hx269_0, hx269_1, hx269_2, hl269_1, hi269_1, hl269_2, hi269_2⟩ := at_T51 (Kd.V_reads' HO_267002.out).2.2 x6_1 p269 q269
      obtain rfl : ad268 = ad269 := (by injection e269)
      obtain ⟨ce269, hce269, hMe269, hcc269⟩ := Kd.V_get HO_267002.out z51 x6_1 p269 (by first | exact q269 | exact of_decide_eq_true (by first | (with_reducible assumption) | assumption) | (have e_ := (Kd.V_reads' HO_267002.out).1; omega))
      obtain ⟨ua269_1, uc269_1, ua269_2, uc269_2, rfl, ul269_1, ge269_1, ul269_2, ge269_2⟩ := k51_openF hMe269
      have hv269_1 := hcc269 1 _ rfl
      rw [add_field _ _ 1 (by omega)] at hv269_1
      replace hv269_1 := Option.some.inj (hv269_1.symm.trans hx269_1)
      injection hv269_1 with hva_ hvn_ hvc_
      rw [hva_] at ge269_1
      rw [hvc_] at ul269_1
      have HL269_1 := aM (show Kd.V k67 67 _ w.heap.size _ _ ((rd_T51 l0_2 x6_1).f1) from Kd.V_mk ul269_1 ge269_1)
      clear hva_ hvn_ hvc_ ge269_1 ul269_1
      have hv269_2 := hcc269 2 _ rfl
      rw [add_field _ _ 2 (by omega)] at hv269_2
      replace hv269_2 := Option.some.inj (hv269_2.symm.trans hx269_2)
      injection hv269_2 with hva_ hvn_ hvc_
      rw [hva_] at ge269_2
      rw [hvc_] at ul269_2
      have HL269_2 := aM (show Kd.V k70 70 _ w.heap.size _ _ ((rd_T51 l0_2 x6_1).f2) from Kd.V_mk ul269_2 ge269_2)
      clear hva_ hvn_ hvc_ ge269_2 ul269_2 hcc269 hce269
      have HR269_1 := aM hi269_1
      have HC269_1 := aM hl269_1
      clear hi269_1 hl269_1
      have HR269_2 := aM hi269_2
      have HC269_2 := aM hl269_2
      clear hi269_2 hl269_2
      replace p269 := eq_true p269
      replace q269 := eq_true q269
      have ea_ := Option.some.inj (hx268_1.symm.trans hx269_1)
      injection ea_ with ea_ en_ ec_
      subst ea_
      subst ec_
      clear en_
      have ea_ := Option.some.inj (hx268_2.symm.trans hx269_2)
      injection ea_ with ea_ en_ ec_
      subst ea_
      subst ec_
      clear en_
      obtain ⟨hcz10_0, hcz10_1, hcz10_2, hfz10_0, hfz10_1, hfz10_2⟩ := bc3 BK267
      go_wp2
      refine bodyPost_ret (results_ct rfl _ _ gb267 51 #[.int .i64 ((rd_T51 l0_2 x6_1).f0), .slice A268_1 ((rd_T51 l0_2 x6_1).f1).length c268_1, .slice A268_2 ((rd_T51 l0_2 x6_1).f2).length c268_2] (0, 0) _ rfl (by (with_reducible repeat (first | refine kN ?_ _ | refine kD ?_ | refine kA ?_ _)); refine kP (cs := #[.int .i64 ((rd_T51 l0_2 x6_1).f0), .slice A268_1 ((rd_T51 l0_2 x6_1).f1).length c268_1, .slice none 0 0]) ?_ 2 _ rfl; (with_reducible repeat (first | refine kN ?_ _ | refine kD ?_ | refine kA ?_ _)); refine kP (cs := #[.int .i64 ((rd_T51 l0_2 x6_1).f0), .slice none 0 0, .slice none 0 0]) ?_ 1 _ rfl; (with_reducible repeat (first | refine kN ?_ _ | refine kD ?_ | refine kA ?_ _)); refine kP (cs := #[.int .i64 x268000_1, .slice none 0 0, .slice none 0 0]) ?_ 0 _ rfl; (with_reducible repeat (first | refine kN ?_ _ | refine kD ?_ | refine kA ?_ _)); exact BK267.out) Try.underlying51 rfl (by kernel_rfl)) rfl ?_
      exact ⟨_, _, by first | rfl | (simp [errW_none, errW_some] <;> rfl) | (simp [*, errW_none, errW_some] <;> rfl), by (with_reducible repeat (first | apply Kd.V_alloc | apply Kd.V_drewN | apply Kd.V_drew)); exact Kd.V_mono (Kd.V_far (p := ⟨gb267, 2, none⟩) (Kd.V_far (p := ⟨gb267, 1, none⟩) (Kd.V_far (p := ⟨gb267, 0, none⟩) (Kd.V_mono HL269_1.out (fun k_ hk => (⟨hk, hk.2.2⟩ : _ ∧ k_ ≠ gb267))) (fun _ hk => hk.2) (.int .i64 ((rd_T51 l0_2 x6_1).f0))) (fun _ hk => hk.2) (.slice A268_1 ((rd_T51 l0_2 x6_1).f1).length c268_1)) (fun _ hk => hk.2) (.slice A268_2 ((rd_T51 l0_2 x6_1).f2).length c268_2)) (fun _ hk => hk.1.1), by (with_reducible repeat (first | apply Kd.V_alloc | apply Kd.V_drewN | apply Kd.V_drew)); exact Kd.V_mono (Kd.V_far (p := ⟨gb267, 2, none⟩) (Kd.V_far (p := ⟨gb267, 1, none⟩) (Kd.V_far (p := ⟨gb267, 0, none⟩) (Kd.V_mono HL269_2.out (fun k_ hk => (⟨hk, hk.2.2⟩ : _ ∧ k_ ≠ gb267))) (fun _ hk => hk.2) (.int .i64 ((rd_T51 l0_2 x6_1).f0))) (fun _ hk => hk.2) (.slice A268_1 ((rd_T51 l0_2 x6_1).f1).length c268_1)) (fun _ hk => hk.2) (.slice A268_2 ((rd_T51 l0_2 x6_1).f2).length c268_2)) (fun _ hk => hk.1.1), bl⟩
     ·rw [if_neg c7] at H
      have c7b0 : (((rd_T51 l0_2 x6_1).f0) == a1) = false := beq_eq_false_iff_ne.mpr c7
      have c7b1 : (((rd_T51 l0_2 x6_1).f0) != a1) = true := bne_iff_ne.mpr c7
      have H' := aM H
      clear H
      have hnb11 := NB266_267.out
      have hnc11 := NB267_266.out
      obtain ⟨hcz12_0, hcz12_1, hcz12_2, hfz12_0, hfz12_1, hfz12_2⟩ := bc3 BK266
      have p268 : 0 ≤ (x6_1 : Int) := oT
      have q268 : x6_1 < (l0_2.length : Int) := oT
      obtain ⟨ad268, A268_1, c268_1, A268_2, c268_2, e268, hx268_0, hx268_1, hx268_2, hl268_1, hi268_1, hl268_2, hi268_2⟩ := at_T51 (Kd.V_reads' HO_267002.out).2.2 x6_1 p268 q268
      cases e268
      obtain ⟨ce268, hce268, hMe268, hcc268⟩ := Kd.V_get HO_267002.out z51 x6_1 p268 (by first | exact q268 | exact of_decide_eq_true (by first | (with_reducible assumption) | assumption) | (have e_ := (Kd.V_reads' HO_267002.out).1; omega))
      obtain ⟨ua268_1, uc268_1, ua268_2, uc268_2, rfl, ul268_1, ge268_1, ul268_2, ge268_2⟩ := k51_openF hMe268
      have hv268_1 := hcc268 1 _ rfl
      rw [add_field _ _ 1 (by omega)] at hv268_1
      replace hv268_1 := Option.some.inj (hv268_1.symm.trans hx268_1)
      injection hv268_1 with hva_ hvn_ hvc_
      rw [hva_] at ge268_1
      rw [hvc_] at ul268_1
      have HL268_1 := aM (show Kd.V k67 67 _ w.heap.size _ _ ((rd_T51 l0_2 x6_1).f1) from Kd.V_mk ul268_1 ge268_1)
      clear hva_ hvn_ hvc_ ge268_1 ul268_1
      have hv268_2 := hcc268 2 _ rfl
      rw [add_field _ _ 2 (by omega)] at hv268_2
      replace hv268_2 := Option.some.inj (hv268_2.symm.trans hx268_2)
      injection hv268_2 with hva_ hvn_ hvc_
      rw [hva_] at ge268_2
      rw [hvc_] at ul268_2
      have HL268_2 := aM (show Kd.V k70 70 _ w.heap.size _ _ ((rd_T51 l0_2 x6_1).f2) from Kd.V_mk ul268_2 ge268_2)
      clear hva_ hvn_ hvc_ ge268_2 ul268_2 hcc268 hce268
      have HR268_1 := aM hi268_1
      have HC268_1 := aM hl268_1
      clear hi268_1 hl268_1
      have HR268_2 := aM hi268_2
      have HC268_2 := aM hl268_2
      clear hi268_2 hl268_2
      replace p268 := eq_true p268
      replace q268 := eq_true q268
      go_wp2
      go_roundg k1
      case measure => have := HK1.out; omega
      case rel => exact ⟨(wrap64 (x6_1 + 1)), (x268000_1), (by first | rfl | (simp; done) | (simp [*]; done)), H', ⟨by have := HK1.out; omega⟩, ⟨by (with_reducible repeat (first | apply Kd.V_alloc | apply Kd.V_drewN | apply Kd.V_drew)); exact HO_267002.out⟩, ⟨by (with_reducible repeat (first | refine kN ?_ _ | refine kD ?_ | refine kA ?_ _)); exact BK266.out⟩, ⟨by (with_reducible repeat (first | refine kN ?_ _ | refine kD ?_ | refine kA ?_ _)); exact BK267.out⟩, ⟨bl⟩⟩
    ·rw [if_neg c6] at H
     exact absurd H (by simp)
   ·rw [if_neg c5] at H
    have c5b0 : decide (x6_1 < (l0_2.length : Int)) = false := decide_eq_false c5
    clear c5
    simp only [Option.some.injEq, Prod.mk.injEq] at H
    obtain ⟨rfl, rfl, rfl, rfl⟩ := H
    have hnb13 := NB266_267.out
    have hnc13 := NB267_266.out
    obtain ⟨hcz14_0, hcz14_1, hcz14_2, hfz14_0, hfz14_1, hfz14_2⟩ := bc3 BK266
    obtain ⟨hcz15_0, hcz15_1, hcz15_2, hfz15_0, hfz15_1, hfz15_2⟩ := bc3 BK267
    go_wp2
    refine bodyPost_ret (results_ct rfl _ _ gb267 51 #[.int .i64 0, .slice none 0 0, .slice none 0 0] (0, 0) _ rfl (by (with_reducible repeat (first | refine kN ?_ _ | refine kD ?_ | refine kA ?_ _)); refine kP (cs := #[.int .i64 0, .slice none 0 0, .slice none 0 0]) ?_ 2 _ rfl; (with_reducible repeat (first | refine kN ?_ _ | refine kD ?_ | refine kA ?_ _)); refine kP (cs := #[.int .i64 0, .slice none 0 0, .slice none 0 0]) ?_ 1 _ rfl; (with_reducible repeat (first | refine kN ?_ _ | refine kD ?_ | refine kA ?_ _)); refine kP (cs := #[.int .i64 x268000_1, .slice none 0 0, .slice none 0 0]) ?_ 0 _ rfl; (with_reducible repeat (first | refine kN ?_ _ | refine kD ?_ | refine kA ?_ _)); exact BK267.out) Try.underlying51 rfl (by kernel_rfl)) rfl ?_
    exact ⟨_, _, by first | rfl | (simp [errW_none, errW_some] <;> rfl) | (simp [*, errW_none, errW_some] <;> rfl), Kd.V_nil _ _ _ _ _, Kd.V_nil _ _ _ _ _, bl⟩
def mapmakerref14_Has.f (k : Nat) (l0_0 : List (S39)) (l0_1 : List (S45)) (l0_2 : List (S51)) (a1_0 : Int) (a1_1 : Int) : Option (Bool) := if a1_0 = 1 then ((mapmakerref14_Node.f k l0_0 l0_1 l0_2 a1_1).bind fun bt272 => (some bt272.2.2.2.2)) else (if a1_0 = 2 then ((mapmakerref14_Way.f k l0_0 l0_1 l0_2 a1_1).bind fun bt280 => (some bt280.2.2.2)) else ((mapmakerref14_Rel.f k l0_0 l0_1 l0_2 a1_1).bind fun bt289 => (if bt289.2.2.2 = true then (some (a1_0 == 3)) else (some false))))
theorem mapmakerref14_Has.mono : ∀ a0 a1 a2 a3 a4 k, LeO (mapmakerref14_Has.f k a0 a1 a2 a3 a4) (mapmakerref14_Has.f (k + 1) a0 a1 a2 a3 a4) := by
 intro a0 a1 a2 a3 a4 k
 unfold mapmakerref14_Has.f
 repeat' first
   | (with_reducible exact mapmakerref14_Node.mono _ _ _ _ _)
   | (with_reducible exact mapmakerref14_Rel.mono _ _ _ _ _)
   | (with_reducible exact mapmakerref14_Way.mono _ _ _ _ _)
   | (with_reducible exact LeO.refl _)
   | (with_reducible exact LeO.none _)
   | (with_reducible refine LeO.ite ?_ ?_)
   | (with_reducible refine LeO.bind ?_ (fun _ => ?_))
   | exact mapmakerref14_Node.mono _ _ _ _ _
   | exact mapmakerref14_Rel.mono _ _ _ _ _
   | exact mapmakerref14_Way.mono _ _ _ _ _
   | exact LeO.none _
   | refine LeO.ite ?_ ?_
   | refine LeO.bind ?_ (fun _ => ?_)
set_option maxHeartbeats 8000000 in
set_option maxRecDepth 100000 in
theorem mapmakerref14_Has.calls (k : Nat) (A0_0 : Option Addr) (c0_0 : Nat) (l0_0 : List (S39)) (A0_1 : Option Addr) (c0_1 : Nat) (l0_1 : List (S45)) (A0_2 : Option Addr) (c0_2 : Nat) (l0_2 : List (S51)) (a1_0 : Int) (a1_1 : Int) (r : Bool) (w : World) (hr0_0 : Kd.C k39 w A0_0 l0_0.length l0_0) (hc0_0 : l0_0.length ≤ c0_0) (hr0_1 : Kd.C k45 w A0_1 l0_1.length l0_1) (hc0_1 : l0_1.length ≤ c0_1) (hr0_2 : Kd.C k51 w A0_2 l0_2.length l0_2) (hc0_2 : l0_2.length ≤ c0_2) (h : mapmakerref14_Has.f k l0_0 l0_1 l0_2 a1_0 a1_1 = some r) :
  Calls Try.prog 22 #[.agg #[.slice A0_0 l0_0.length c0_0, .slice A0_1 l0_1.length c0_1, .slice A0_2 l0_2.length c0_2], .agg #[.int .i64 a1_0, .int .i64 a1_1]] w fun e w' => e = .returned (.bool r) ∧ Below w.heap.size w w' := by
 have hu26 := Try.underlying26
 have hu34 := Try.underlying34
 have hu39 := Try.underlying39
 have hu45 := Try.underlying45
 have hu51 := Try.underlying51
 have HR0_0 := aM hr0_0
 have HC0_0 := aM hc0_0
 clear hr0_0 hc0_0
 have HR0_1 := aM hr0_1
 have HC0_1 := aM hc0_1
 clear hr0_1 hc0_1
 have HR0_2 := aM hr0_2
 have HC0_2 := aM hc0_2
 clear hr0_2 hc0_2
 have HB := aM (Below.refl w.heap.size w)
 have H : (if a1_0 = 1 then ((mapmakerref14_Node.f k l0_0 l0_1 l0_2 a1_1).bind fun bt272 => (some bt272.2.2.2.2)) else (if a1_0 = 2 then ((mapmakerref14_Way.f k l0_0 l0_1 l0_2 a1_1).bind fun bt280 => (some bt280.2.2.2)) else ((mapmakerref14_Rel.f k l0_0 l0_1 l0_2 a1_1).bind fun bt289 => (if bt289.2.2.2 = true then (some (a1_0 == 3)) else (some false))))) = some r := h
 clear h
 by_cases c3 : a1_0 = 1
 ·rw [if_pos c3] at H
  have c3b0 : (a1_0 == 1) = true := beq_iff_eq.mpr c3
  have c3b1 : (a1_0 != 1) = false := bne_eq_false_iff_eq.mpr c3
  clear c3
  replace H := Option.bind_eq_some_iff.mp H
  obtain ⟨⟨t272, t273, t274, t275, t278⟩, A40, H⟩ := H
  replace H : (some t278) = some r := H
  have A4 := aM A40
  clear A40
  obtain rfl := Option.some.inj H
  go_enter Try.func22, Try.ntmps22
  go_wp2_with (first | ((with_reducible refine gate_dst (N := 2) rfl ?_); refine bx (N := 2) (cs := #[.slice A0_0 l0_0.length c0_0, .slice A0_1 l0_1.length c0_1, .slice A0_2 l0_2.length c0_2]) (t := 26) ?_; intro gb270 hg w5 hbox hb; have BK270 := aM (hbox); have GW270 := aM (gw (w := w) hg); have GE270 := aM (gw (w := w) hg); replace HB := aM (bS (bl) hb); clear hb hbox hg) | ((with_reducible refine gate_dst (N := 3) rfl ?_); refine bx (N := 3) (cs := #[.int .i64 a1_0, .int .i64 a1_1]) (t := 34) ?_; intro gb271 hg w6 hbox hb; have BK271 := aM (hbox); have GW271 := aM (gw (w := w) hg); have GE271 := aM (gw (w := w) hg); have NB270_271 := aM (nb BK270 hg); have NB271_270 := aM (nb BK270 hg).symm; replace BK270 := aM (kB (kl BK270) hb); replace HB := aM (bS (bl) hb); clear hb hbox hg; have hnb7 := NB271_270.out; have hnc7 := NB270_271.out; obtain ⟨hcz8_0, hcz8_1, hfz8_0, hfz8_1⟩ := bc2 BK271; obtain ⟨hcz9_0, hcz9_1, hcz9_2, hfz9_0, hfz9_1, hfz9_2⟩ := bc3 BK270) | ((with_reducible refine gate_callee (f := 13) rfl ?_); refine gL (some 18) Try.func13 #[.agg #[.slice A0_0 l0_0.length c0_0, .slice A0_1 l0_1.length c0_1, .slice A0_2 l0_2.length c0_2], .int .i64 a1_1] ?_; (with_reducible refine (mapmakerref14_Node.calls k (fun k_ => k_ < w.heap.size) _ _ l0_0 _ _ l0_1 _ _ l0_2 a1_1 t272 t273 t274 t275 t278 _ ?side1 ?side2 ?side3 ?side4 ?side5 A4.out).mono ?_); (case side1 => exact Kd.V_mk HC0_0.out (Kd.F_below (Kd.C_F k39_heap HR0_0.out) (bl))); (case side2 => exact cl HR0_1); (case side3 => exact HC0_1.out); (case side4 => exact cl HR0_2); (case side5 => exact HC0_2.out); rintro e w10 ⟨v276, rfl, ho0, hb⟩; refine ⟨_, rfl, ?_⟩; have HO277 := aM (Kd.V_lower (Kd.V_mono (ok' := fun k_ => k_ ≠ gb270 ∧ k_ ≠ gb271) ho0 (fun k_ hk_ => ⟨Or.elim hk_ (fun hs_ => fun e_ => Nat.not_le.2 hs_ (by rw [e_]; exact GW270.out)) (fun hn_ => (Kd.freshB (kl BK270) k_ hn_)), Or.elim hk_ (fun hs_ => fun e_ => Nat.not_le.2 hs_ (by rw [e_]; exact GW271.out)) (fun hn_ => (Kd.freshB (kl BK271) k_ hn_))⟩)) (below_size (bl))); replace BK270 := aM (kB (kl BK270) hb); replace BK271 := aM (kB (kl BK271) hb); replace HB := aM (bS (bl) hb); (try clear hb); (try clear ho0)) | ((with_reducible refine gate_dst (N := 5) rfl ?_); refine bx (N := 5) (cs := #[.int .i64 0, .int .i64 0, .int .i64 0, .slice none 0 0]) (t := 39) ?_; intro gb279 hg w11 hbox hb; have n0_ := aM (Kd.V_below (Kd.V_elderB (by (with_reducible repeat (first | apply Kd.V_alloc | apply Kd.V_drewN | apply Kd.V_drew)); exact HO277.out) gb279 (Nat.le_of_eq hg.symm)) hb); have n1_ := aM (kB (kl BK270) hb); have n2_ := aM (kB (kl BK271) hb); have n3_ := aM (bS (bl) hb); have n4_ := aM (hbox); have n6_ := aM (gw (w := w) hg); have n7_ := aM (nb BK270 hg); have n8_ := aM (nb BK270 hg).symm; have n9_ := aM (nb BK271 hg); have n10_ := aM (nb BK271 hg).symm; (try clear HO277); (try clear BK270); (try clear BK271); (try clear HB); have HO277 := n0_; have BK270 := n1_; have BK271 := n2_; have HB := n3_; have BK279 := n4_; have GE279 := n6_; have NB270_279 := n7_; have NB279_270 := n8_; have NB271_279 := n9_; have NB279_271 := n10_; clear n0_ n1_ n2_ n3_ n4_ n6_ n7_ n8_ n9_ n10_ hb hbox hg; have hnb12 := NB279_270.out; have hnc12 := NB270_279.out; have hnb13 := NB279_271.out; have hnc13 := NB271_279.out; obtain ⟨hcz14_0, hcz14_1, hcz14_2, hcz14_3, hfz14_0, hfz14_1, hfz14_2, hfz14_3⟩ := bc4 BK279; obtain ⟨Ao15, co15, eo15⟩ := Kd.V_slice HO277.out; subst eo15))
  go_ret
  exact ⟨by first | rfl | (simp [errW_none, errW_some] <;> rfl) | (simp [*, errW_none, errW_some] <;> rfl), bl⟩
 ·rw [if_neg c3] at H
  have c3b0 : (a1_0 == 1) = false := beq_eq_false_iff_ne.mpr c3
  have c3b1 : (a1_0 != 1) = true := bne_iff_ne.mpr c3
  by_cases c16 : a1_0 = 2
  ·rw [if_pos c16] at H
   have c16b0 : (a1_0 == 2) = true := beq_iff_eq.mpr c16
   have c16b1 : (a1_0 != 2) = false := bne_eq_false_iff_eq.mpr c16
   clear c16
   replace H := Option.bind_eq_some_iff.mp H
   obtain ⟨⟨t280, t281, t284, t287⟩, A170, H⟩ := H
   replace H : (some t287) = some r := H
   have A17 := aM A170
   clear A170
   obtain rfl := Option.some.inj H
   go_enter Try.func22, Try.ntmps22
   go_wp2_with (first | ((with_reducible refine gate_dst (N := 2) rfl ?_); refine bx (N := 2) (cs := #[.slice A0_0 l0_0.length c0_0, .slice A0_1 l0_1.length c0_1, .slice A0_2 l0_2.length c0_2]) (t := 26) ?_; intro gb270 hg w18 hbox hb; have BK270 := aM (hbox); have GW270 := aM (gw (w := w) hg); have GE270 := aM (gw (w := w) hg); replace HB := aM (bS (bl) hb); clear hb hbox hg) | ((with_reducible refine gate_dst (N := 3) rfl ?_); refine bx (N := 3) (cs := #[.int .i64 a1_0, .int .i64 a1_1]) (t := 34) ?_; intro gb271 hg w19 hbox hb; have BK271 := aM (hbox); have GW271 := aM (gw (w := w) hg); have GE271 := aM (gw (w := w) hg); have NB270_271 := aM (nb BK270 hg); have NB271_270 := aM (nb BK270 hg).symm; replace BK270 := aM (kB (kl BK270) hb); replace HB := aM (bS (bl) hb); clear hb hbox hg; have hnb20 := NB271_270.out; have hnc20 := NB270_271.out; obtain ⟨hcz21_0, hcz21_1, hfz21_0, hfz21_1⟩ := bc2 BK271; obtain ⟨hcz22_0, hcz22_1, hcz22_2, hfz22_0, hfz22_1, hfz22_2⟩ := bc3 BK270) | ((with_reducible refine gate_callee (f := 16) rfl ?_); refine gL (some 29) Try.func16 #[.agg #[.slice A0_0 l0_0.length c0_0, .slice A0_1 l0_1.length c0_1, .slice A0_2 l0_2.length c0_2], .int .i64 a1_1] ?_; (with_reducible refine (mapmakerref14_Way.calls k _ _ l0_0 (fun k_ => k_ < w.heap.size) _ _ l0_1 _ _ l0_2 a1_1 t280 t281 t284 t287 _ ?side1 ?side2 ?side3 ?side4 ?side5 A17.out).mono ?_); (case side1 => exact cl HR0_0); (case side2 => exact HC0_0.out); (case side3 => exact Kd.V_mk HC0_1.out (Kd.F_below (Kd.C_F k45_heap HR0_1.out) (bl))); (case side4 => exact cl HR0_2); (case side5 => exact HC0_2.out); rintro e w23 ⟨v282, v285, rfl, ho0, ho1, hb⟩; refine ⟨_, rfl, ?_⟩; have HO283 := aM (Kd.V_lower (Kd.V_mono (ok' := fun k_ => k_ ≠ gb270 ∧ k_ ≠ gb271) ho0 (fun k_ hk_ => ⟨Or.elim hk_ (fun hs_ => fun e_ => Nat.not_le.2 hs_ (by rw [e_]; exact GW270.out)) (fun hn_ => (Kd.freshB (kl BK270) k_ hn_)), Or.elim hk_ (fun hs_ => fun e_ => Nat.not_le.2 hs_ (by rw [e_]; exact GW271.out)) (fun hn_ => (Kd.freshB (kl BK271) k_ hn_))⟩)) (below_size (bl))); have HO286 := aM (Kd.V_lower (Kd.V_mono (ok' := fun k_ => k_ ≠ gb270 ∧ k_ ≠ gb271) ho1 (fun k_ hk_ => ⟨Or.elim hk_ (fun hs_ => fun e_ => Nat.not_le.2 hs_ (by rw [e_]; exact GW270.out)) (fun hn_ => (Kd.freshB (kl BK270) k_ hn_)), Or.elim hk_ (fun hs_ => fun e_ => Nat.not_le.2 hs_ (by rw [e_]; exact GW271.out)) (fun hn_ => (Kd.freshB (kl BK271) k_ hn_))⟩)) (below_size (bl))); replace BK270 := aM (kB (kl BK270) hb); replace BK271 := aM (kB (kl BK271) hb); replace HB := aM (bS (bl) hb); (try clear hb); (try clear ho0); (try clear ho1)) | ((with_reducible refine gate_dst (N := 7) rfl ?_); refine bx (N := 7) (cs := #[.int .i64 0, .slice none 0 0, .slice none 0 0]) (t := 45) ?_; intro gb288 hg w24 hbox hb; have n0_ := aM (Kd.V_below (Kd.V_elderB (by (with_reducible repeat (first | apply Kd.V_alloc | apply Kd.V_drewN | apply Kd.V_drew)); exact HO283.out) gb288 (Nat.le_of_eq hg.symm)) hb); have n1_ := aM (Kd.V_below (Kd.V_elderB (by (with_reducible repeat (first | apply Kd.V_alloc | apply Kd.V_drewN | apply Kd.V_drew)); exact HO286.out) gb288 (Nat.le_of_eq hg.symm)) hb); have n2_ := aM (kB (kl BK270) hb); have n3_ := aM (kB (kl BK271) hb); have n4_ := aM (bS (bl) hb); have n5_ := aM (hbox); have n7_ := aM (gw (w := w) hg); have n8_ := aM (nb BK270 hg); have n9_ := aM (nb BK270 hg).symm; have n10_ := aM (nb BK271 hg); have n11_ := aM (nb BK271 hg).symm; (try clear HO283); (try clear HO286); (try clear BK270); (try clear BK271); (try clear HB); have HO283 := n0_; have HO286 := n1_; have BK270 := n2_; have BK271 := n3_; have HB := n4_; have BK288 := n5_; have GE288 := n7_; have NB270_288 := n8_; have NB288_270 := n9_; have NB271_288 := n10_; have NB288_271 := n11_; clear n0_ n1_ n2_ n3_ n4_ n5_ n7_ n8_ n9_ n10_ n11_ hb hbox hg; have hnb25 := NB288_270.out; have hnc25 := NB270_288.out; have hnb26 := NB288_271.out; have hnc26 := NB271_288.out; obtain ⟨hcz27_0, hcz27_1, hcz27_2, hfz27_0, hfz27_1, hfz27_2⟩ := bc3 BK288; obtain ⟨Ao28, co28, eo28⟩ := Kd.V_slice HO283.out; subst eo28; obtain ⟨Ao29, co29, eo29⟩ := Kd.V_slice HO286.out; subst eo29))
   go_ret
   exact ⟨by first | rfl | (simp [errW_none, errW_some] <;> rfl) | (simp [*, errW_none, errW_some] <;> rfl), bl⟩
  ·rw [if_neg c16] at H
   have c16b0 : (a1_0 == 2) = false := beq_eq_false_iff_ne.mpr c16
   have c16b1 : (a1_0 != 2) = true := bne_iff_ne.mpr c16
   replace H := Option.bind_eq_some_iff.mp H
   obtain ⟨⟨t289, t290, t293, t296⟩, A300, H⟩ := H
   replace H : (if t296 = true then (some (a1_0 == 3)) else (some false)) = some r := H
   have A30 := aM A300
   clear A300
   by_cases c31 : t296 = true
   ·subst c31
    have H1 : (some (a1_0 == 3)) = some r := by rw [if_pos rfl] at H; exact H
    clear H
    have H := H1
    clear H1
    obtain rfl := Option.some.inj H
    go_enter Try.func22, Try.ntmps22
    go_wp2_with (first | ((with_reducible refine gate_dst (N := 2) rfl ?_); refine bx (N := 2) (cs := #[.slice A0_0 l0_0.length c0_0, .slice A0_1 l0_1.length c0_1, .slice A0_2 l0_2.length c0_2]) (t := 26) ?_; intro gb270 hg w32 hbox hb; have BK270 := aM (hbox); have GW270 := aM (gw (w := w) hg); have GE270 := aM (gw (w := w) hg); replace HB := aM (bS (bl) hb); clear hb hbox hg) | ((with_reducible refine gate_dst (N := 3) rfl ?_); refine bx (N := 3) (cs := #[.int .i64 a1_0, .int .i64 a1_1]) (t := 34) ?_; intro gb271 hg w33 hbox hb; have BK271 := aM (hbox); have GW271 := aM (gw (w := w) hg); have GE271 := aM (gw (w := w) hg); have NB270_271 := aM (nb BK270 hg); have NB271_270 := aM (nb BK270 hg).symm; replace BK270 := aM (kB (kl BK270) hb); replace HB := aM (bS (bl) hb); clear hb hbox hg; have hnb34 := NB271_270.out; have hnc34 := NB270_271.out; obtain ⟨hcz35_0, hcz35_1, hfz35_0, hfz35_1⟩ := bc2 BK271; obtain ⟨hcz36_0, hcz36_1, hcz36_2, hfz36_0, hfz36_1, hfz36_2⟩ := bc3 BK270) | ((with_reducible refine gate_callee (f := 19) rfl ?_); refine gL (some 37) Try.func19 #[.agg #[.slice A0_0 l0_0.length c0_0, .slice A0_1 l0_1.length c0_1, .slice A0_2 l0_2.length c0_2], .int .i64 a1_1] ?_; (with_reducible refine (mapmakerref14_Rel.calls k _ _ l0_0 _ _ l0_1 (fun k_ => k_ < w.heap.size) _ _ l0_2 a1_1 t289 t290 t293 true _ ?side1 ?side2 ?side3 ?side4 ?side5 A30.out).mono ?_); (case side1 => exact cl HR0_0); (case side2 => exact HC0_0.out); (case side3 => exact cl HR0_1); (case side4 => exact HC0_1.out); (case side5 => exact Kd.V_mk HC0_2.out (Kd.F_below (Kd.C_F k51_heap HR0_2.out) (bl))); rintro e w37 ⟨v291, v294, rfl, ho0, ho1, hb⟩; refine ⟨_, rfl, ?_⟩; have HO292 := aM (Kd.V_lower (Kd.V_mono (ok' := fun k_ => k_ ≠ gb270 ∧ k_ ≠ gb271) ho0 (fun k_ hk_ => ⟨Or.elim hk_ (fun hs_ => fun e_ => Nat.not_le.2 hs_ (by rw [e_]; exact GW270.out)) (fun hn_ => (Kd.freshB (kl BK270) k_ hn_)), Or.elim hk_ (fun hs_ => fun e_ => Nat.not_le.2 hs_ (by rw [e_]; exact GW271.out)) (fun hn_ => (Kd.freshB (kl BK271) k_ hn_))⟩)) (below_size (bl))); have HO295 := aM (Kd.V_lower (Kd.V_mono (ok' := fun k_ => k_ ≠ gb270 ∧ k_ ≠ gb271) ho1 (fun k_ hk_ => ⟨Or.elim hk_ (fun hs_ => fun e_ => Nat.not_le.2 hs_ (by rw [e_]; exact GW270.out)) (fun hn_ => (Kd.freshB (kl BK270) k_ hn_)), Or.elim hk_ (fun hs_ => fun e_ => Nat.not_le.2 hs_ (by rw [e_]; exact GW271.out)) (fun hn_ => (Kd.freshB (kl BK271) k_ hn_))⟩)) (below_size (bl))); replace BK270 := aM (kB (kl BK270) hb); replace BK271 := aM (kB (kl BK271) hb); replace HB := aM (bS (bl) hb); (try clear hb); (try clear ho0); (try clear ho1)) | ((with_reducible refine gate_dst (N := 9) rfl ?_); refine bx (N := 9) (cs := #[.int .i64 0, .slice none 0 0, .slice none 0 0]) (t := 51) ?_; intro gb297 hg w38 hbox hb; have n0_ := aM (Kd.V_below (Kd.V_elderB (by (with_reducible repeat (first | apply Kd.V_alloc | apply Kd.V_drewN | apply Kd.V_drew)); exact HO292.out) gb297 (Nat.le_of_eq hg.symm)) hb); have n1_ := aM (Kd.V_below (Kd.V_elderB (by (with_reducible repeat (first | apply Kd.V_alloc | apply Kd.V_drewN | apply Kd.V_drew)); exact HO295.out) gb297 (Nat.le_of_eq hg.symm)) hb); have n2_ := aM (kB (kl BK270) hb); have n3_ := aM (kB (kl BK271) hb); have n4_ := aM (bS (bl) hb); have n5_ := aM (hbox); have n7_ := aM (gw (w := w) hg); have n8_ := aM (nb BK270 hg); have n9_ := aM (nb BK270 hg).symm; have n10_ := aM (nb BK271 hg); have n11_ := aM (nb BK271 hg).symm; (try clear HO292); (try clear HO295); (try clear BK270); (try clear BK271); (try clear HB); have HO292 := n0_; have HO295 := n1_; have BK270 := n2_; have BK271 := n3_; have HB := n4_; have BK297 := n5_; have GE297 := n7_; have NB270_297 := n8_; have NB297_270 := n9_; have NB271_297 := n10_; have NB297_271 := n11_; clear n0_ n1_ n2_ n3_ n4_ n5_ n7_ n8_ n9_ n10_ n11_ hb hbox hg; have hnb39 := NB297_270.out; have hnc39 := NB270_297.out; have hnb40 := NB297_271.out; have hnc40 := NB271_297.out; obtain ⟨hcz41_0, hcz41_1, hcz41_2, hfz41_0, hfz41_1, hfz41_2⟩ := bc3 BK297; obtain ⟨Ao42, co42, eo42⟩ := Kd.V_slice HO292.out; subst eo42; obtain ⟨Ao43, co43, eo43⟩ := Kd.V_slice HO295.out; subst eo43; obtain ⟨hcz44_0, hcz44_1, hfz44_0, hfz44_1⟩ := bc2 BK271))
    go_ret
    exact ⟨by first | rfl | (simp [errW_none, errW_some] <;> rfl) | (simp [*, errW_none, errW_some] <;> rfl), bl⟩
   ·replace c31 := Bool.eq_false_iff.mpr c31
    subst c31
    have H1 : (some false) = some r := by rw [if_neg (show ¬ (false = true) by decide)] at H; exact H
    clear H
    have H := H1
    clear H1
    obtain rfl := Option.some.inj H
    go_enter Try.func22, Try.ntmps22
    go_wp2_with (first | ((with_reducible refine gate_dst (N := 2) rfl ?_); refine bx (N := 2) (cs := #[.slice A0_0 l0_0.length c0_0, .slice A0_1 l0_1.length c0_1, .slice A0_2 l0_2.length c0_2]) (t := 26) ?_; intro gb270 hg w45 hbox hb; have BK270 := aM (hbox); have GW270 := aM (gw (w := w) hg); have GE270 := aM (gw (w := w) hg); replace HB := aM (bS (bl) hb); clear hb hbox hg) | ((with_reducible refine gate_dst (N := 3) rfl ?_); refine bx (N := 3) (cs := #[.int .i64 a1_0, .int .i64 a1_1]) (t := 34) ?_; intro gb271 hg w46 hbox hb; have BK271 := aM (hbox); have GW271 := aM (gw (w := w) hg); have GE271 := aM (gw (w := w) hg); have NB270_271 := aM (nb BK270 hg); have NB271_270 := aM (nb BK270 hg).symm; replace BK270 := aM (kB (kl BK270) hb); replace HB := aM (bS (bl) hb); clear hb hbox hg; have hnb47 := NB271_270.out; have hnc47 := NB270_271.out; obtain ⟨hcz48_0, hcz48_1, hfz48_0, hfz48_1⟩ := bc2 BK271; obtain ⟨hcz49_0, hcz49_1, hcz49_2, hfz49_0, hfz49_1, hfz49_2⟩ := bc3 BK270) | ((with_reducible refine gate_callee (f := 19) rfl ?_); refine gL (some 37) Try.func19 #[.agg #[.slice A0_0 l0_0.length c0_0, .slice A0_1 l0_1.length c0_1, .slice A0_2 l0_2.length c0_2], .int .i64 a1_1] ?_; (with_reducible refine (mapmakerref14_Rel.calls k _ _ l0_0 _ _ l0_1 (fun k_ => k_ < w.heap.size) _ _ l0_2 a1_1 t289 t290 t293 false _ ?side1 ?side2 ?side3 ?side4 ?side5 A30.out).mono ?_); (case side1 => exact cl HR0_0); (case side2 => exact HC0_0.out); (case side3 => exact cl HR0_1); (case side4 => exact HC0_1.out); (case side5 => exact Kd.V_mk HC0_2.out (Kd.F_below (Kd.C_F k51_heap HR0_2.out) (bl))); rintro e w50 ⟨v291, v294, rfl, ho0, ho1, hb⟩; refine ⟨_, rfl, ?_⟩; have HO292 := aM (Kd.V_lower (Kd.V_mono (ok' := fun k_ => k_ ≠ gb270 ∧ k_ ≠ gb271) ho0 (fun k_ hk_ => ⟨Or.elim hk_ (fun hs_ => fun e_ => Nat.not_le.2 hs_ (by rw [e_]; exact GW270.out)) (fun hn_ => (Kd.freshB (kl BK270) k_ hn_)), Or.elim hk_ (fun hs_ => fun e_ => Nat.not_le.2 hs_ (by rw [e_]; exact GW271.out)) (fun hn_ => (Kd.freshB (kl BK271) k_ hn_))⟩)) (below_size (bl))); have HO295 := aM (Kd.V_lower (Kd.V_mono (ok' := fun k_ => k_ ≠ gb270 ∧ k_ ≠ gb271) ho1 (fun k_ hk_ => ⟨Or.elim hk_ (fun hs_ => fun e_ => Nat.not_le.2 hs_ (by rw [e_]; exact GW270.out)) (fun hn_ => (Kd.freshB (kl BK270) k_ hn_)), Or.elim hk_ (fun hs_ => fun e_ => Nat.not_le.2 hs_ (by rw [e_]; exact GW271.out)) (fun hn_ => (Kd.freshB (kl BK271) k_ hn_))⟩)) (below_size (bl))); replace BK270 := aM (kB (kl BK270) hb); replace BK271 := aM (kB (kl BK271) hb); replace HB := aM (bS (bl) hb); (try clear hb); (try clear ho0); (try clear ho1)) | ((with_reducible refine gate_dst (N := 9) rfl ?_); refine bx (N := 9) (cs := #[.int .i64 0, .slice none 0 0, .slice none 0 0]) (t := 51) ?_; intro gb297 hg w51 hbox hb; have n0_ := aM (Kd.V_below (Kd.V_elderB (by (with_reducible repeat (first | apply Kd.V_alloc | apply Kd.V_drewN | apply Kd.V_drew)); exact HO292.out) gb297 (Nat.le_of_eq hg.symm)) hb); have n1_ := aM (Kd.V_below (Kd.V_elderB (by (with_reducible repeat (first | apply Kd.V_alloc | apply Kd.V_drewN | apply Kd.V_drew)); exact HO295.out) gb297 (Nat.le_of_eq hg.symm)) hb); have n2_ := aM (kB (kl BK270) hb); have n3_ := aM (kB (kl BK271) hb); have n4_ := aM (bS (bl) hb); have n5_ := aM (hbox); have n7_ := aM (gw (w := w) hg); have n8_ := aM (nb BK270 hg); have n9_ := aM (nb BK270 hg).symm; have n10_ := aM (nb BK271 hg); have n11_ := aM (nb BK271 hg).symm; (try clear HO292); (try clear HO295); (try clear BK270); (try clear BK271); (try clear HB); have HO292 := n0_; have HO295 := n1_; have BK270 := n2_; have BK271 := n3_; have HB := n4_; have BK297 := n5_; have GE297 := n7_; have NB270_297 := n8_; have NB297_270 := n9_; have NB271_297 := n10_; have NB297_271 := n11_; clear n0_ n1_ n2_ n3_ n4_ n5_ n7_ n8_ n9_ n10_ n11_ hb hbox hg; have hnb52 := NB297_270.out; have hnc52 := NB270_297.out; have hnb53 := NB297_271.out; have hnc53 := NB271_297.out; obtain ⟨hcz54_0, hcz54_1, hcz54_2, hfz54_0, hfz54_1, hfz54_2⟩ := bc3 BK297; obtain ⟨Ao55, co55, eo55⟩ := Kd.V_slice HO292.out; subst eo55; obtain ⟨Ao56, co56, eo56⟩ := Kd.V_slice HO295.out; subst eo56))
    go_ret
    exact ⟨by first | rfl | (simp [errW_none, errW_some] <;> rfl) | (simp [*, errW_none, errW_some] <;> rfl), bl⟩
end Go.Proofs.Ytgenbepicnbecaa.PAll
