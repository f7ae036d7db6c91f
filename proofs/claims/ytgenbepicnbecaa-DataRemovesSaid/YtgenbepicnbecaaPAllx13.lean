-- out of a driver of this session's prover over the kit's print: Lean checks it
import Derived.Test.YtgenbepicnbecaaPAllx0
import Derived.Test.YtgenbepicnbecaaPAllx2
import Derived.Test.YtgenbepicnbecaaPAllx4
import Derived.Test.YtgenbepicnbecaaPAllx7
import Derived.Test.YtgenbepicnbecaaPAllx9
namespace Go.Proofs.Ytgenbepicnbecaa.PAll
open Go.Proofs.YtgenbepicnbecaaG Go.Shelf Go.Lib
open Go.RowKit Go.Proofs.YtgenbepicnbecaaW.PrintWords Go.Proofs.YtgenbepicnbecaaW.PrintLast Go.Proofs.YtgenbepicnbecaaW.PrintMore
attribute [local go_sem] max2_int min2_int max_two min_two max_three min_three max_four min_four   -- for this text's walks alone
set_option linter.unusedVariables false
set_option linter.unusedSimpArgs false
attribute [local go_sem high] eqA36 eqA70
set_option maxHeartbeats 4000000 in
set_option maxRecDepth 100000 in
theorem ix79 (p : S39 → Bool) (g : Nat) (lb : Array Value) (eg : ∀ args w, (callFunc g args).run Try.prog w = .ok (.enter g args) w) (A0 : Option Addr) (c0 : Nat) (l0 : List S39) (w : World) (hr0 : Kd.C k39 w A0 l0.length l0)
  (hp : ∀ (W : World) (x : S39) (A3 : Option Addr) (c3 : Nat), Below w.heap.size w W → Calls Try.prog g (#[.agg #[.int .i64 x.f0, .int .i64 x.f1.f0, .int .i64 x.f1.f1, .slice A3 x.f2.length c3]] ++ lb) W fun e w' => e = .returned (.bool (p x)) ∧ Below W.heap.size W w') :
  Calls Try.prog 79 #[.slice A0 l0.length c0, .func (.func g) #[] lb] w fun e w' => e = .returned (.int .i64 (ixOf p l0)) ∧ Below w.heap.size w w' := by
 have hbig : l0.length ≤ 9223372036854775807 := hr0.2.1
 have HR0 := aM hr0
 clear hr0
 have HP := aM hp
 clear hp
 go_enter Try.func79, Try.ntmps79
 go_wp2
 go_loopg [5, 8] l0.length (fun gg _ s8 wr => ∃ kk : Int, 0 ≤ kk ∧ kk ≤ (l0.length : Int) ∧ (l0.length : Int) - kk ≤ gg ∧ s8 = .int .i64 kk ∧ Aside0 (Below w.heap.size w wr) ∧ Aside0 (∀ j : Nat, (j : Int) < kk → p (l0.getD j z39) = false))
 case atStart => exact ⟨0, by omega, by omega, by omega, rfl, ⟨Below.refl _ w⟩, ⟨fun j hj => absurd hj (by omega)⟩⟩
 case round =>
  obtain ⟨kk, hk0, hkk, hg, rfl, BW, AA⟩ := hrel
  by_cases hlt : kk < (l0.length : Int)
  ·obtain ⟨ad, A3, c3, e0, hx0, hx1, hx2, hx3, hl3, hi3⟩ := at_T39 (Kd.C_below HR0.out BW.out) kk hk0 hlt
   cases e0
   have hcall := HP.out wr (rd_T39 l0 kk) A3 c3 BW.out
   have B := aM (show rd_T39 l0 kk = l0.getD kk.toNat z39 from rfl)
   clear hl3 hi3
   generalize rd_T39 l0 kk = y at hcall hx0 hx1 hx2 hx3 B
   cases hq : p y with
   | true =>
    rw [hq] at hcall
    have HQ := aM hq
    clear hq
    go_wp2_with (go_at_fn g; refine hcall.mono ?_; rintro e w' ⟨rfl, hb'⟩)
    go_ret
    refine ⟨?_, BW.out.trans (hb'.mono BW.out.size)⟩
    rw [ixOf_hit p l0 z39 kk.toNat (by omega) (by rw [← B.out]; exact HQ.out) (fun j hj => AA.out j (by omega))]
    rw [Int.toNat_of_nonneg hk0]
    rfl
   | false =>
    rw [hq] at hcall
    have HQ := aM hq
    clear hq
    go_wp2_with (go_at_fn g; refine hcall.mono ?_; rintro e w' ⟨rfl, hb'⟩)
    go_roundg (l0.length - (kk.toNat + 1))
    case measure => omega
    case rel =>
     refine ⟨kk + 1, by omega, by omega, by omega, by go_num, ⟨BW.out.trans (hb'.mono BW.out.size)⟩, ⟨fun j hj => ?_⟩⟩
     by_cases e : (j : Int) = kk
     ·have : j = kk.toNat := by omega
      subst this
      rw [← B.out]; exact HQ.out
     ·exact AA.out j (by omega)
  ·have : kk = (l0.length : Int) := by omega
   subst this
   go_wp2
   go_ret
   refine ⟨?_, BW.out⟩
   rw [ixOf_miss p l0 z39 (fun j hj => AA.out j (by omega))]
   rfl
set_option maxHeartbeats 4000000 in
set_option maxRecDepth 100000 in
theorem find44 (p : S39 → Bool) (g : Nat) (lb : Array Value) (eg : ∀ args w, (callFunc g args).run Try.prog w = .ok (.enter g args) w) (P0_ : Nat → Prop) (A0 : Option Addr) (c0 : Nat) (l0 : List S39) (w : World) (hs0 : Kd.V k39 39 w w.heap.size P0_ (.slice A0 l0.length c0) l0)
  (hp : ∀ (W : World) (x : S39) (A3 : Option Addr) (c3 : Nat), Below w.heap.size w W → Calls Try.prog g (#[.agg #[.int .i64 x.f0, .int .i64 x.f1.f0, .int .i64 x.f1.f1, .slice A3 x.f2.length c3]] ++ lb) W fun e w' => e = .returned (.bool (p x)) ∧ Below W.heap.size W w') (y : S39) (b : Bool) (hy : y = (l0.find? p).getD z39) (hb : b = (l0.find? p).isSome) :
  Calls Try.prog 44 #[.slice A0 l0.length c0, .func (.func g) #[] lb] w fun e w' => ∃ (A3 : Option Addr) (c3 : Nat), e = .returned (.tuple #[.agg #[.int .i64 y.f0, .int .i64 y.f1.f0, .int .i64 y.f1.f1, .slice A3 y.f2.length c3], .bool b]) ∧ Kd.V k70 70 w' w.heap.size P0_ (.slice A3 y.f2.length c3) y.f2 ∧ Below w.heap.size w w' := by
 have hu39 := Try.underlying39
 have HI := aM (ixOf_find p l0 z39)
 have HX : Aside0 (∀ W, Below w.heap.size w W → Calls Try.prog 79 #[.slice A0 l0.length c0, .func (.func g) #[] lb] W fun e w' => e = .returned (.int .i64 (ixOf p l0)) ∧ Below W.heap.size W w') := ⟨fun W hW => ix79 p g lb eg A0 c0 l0 W (Kd.C_below (Kd.V_reads' hs0).2.2 hW) (fun W' x A3 c3 hb' => hp W' x A3 c3 (hW.trans (hb'.mono hW.size)))⟩
 have HV := aM hs0
 have hbig : l0.length ≤ 9223372036854775807 := (Kd.V_reads' hs0).2.2.2.1
 clear hs0 hp
 generalize l0.find? p = o at HI hy hb
 generalize ixOf p l0 = n at HI HX
 rcases HI.out with ⟨rfl, rfl⟩ | ⟨kk, rfl, hk, rfl⟩
 ·obtain rfl : y = z39 := hy
  obtain rfl : b = false := hb
  clear HI
  go_enter Try.func44, Try.ntmps44
  go_wp2_with (first | ((with_reducible refine gate_dst (N := 4) rfl ?_); refine bx (N := 4) (cs := #[.int .i64 0, .int .i64 0, .int .i64 0, .slice none 0 0]) (t := 39) ?_; intro gr hg w3 hbox hb; have HB3 := aM hb; have BKr := aM hbox; have GEr := aM (Nat.le_of_eq hg.symm); clear hb hbox hg) | ((with_reducible refine gate_dst (N := 6) rfl ?_); refine bx (N := 6) (cs := #[.int .i64 0, .int .i64 0, .int .i64 0, .slice none 0 0]) (t := 39) ?_; intro gz hg w4 hbox hb; have HB4 := aM (HB3.out.trans (hb.mono HB3.out.size)); have BKr4 := aM (kB BKr.out hb); have BKz := aM hbox; have NRZ := aM (by rw [hg]; exact Nat.ne_of_lt (blk_lt BKr.out) : gr ≠ gz); clear BKr HB3 hb hbox hg) | (go_at_call 79; refine (HX.out w4 HB4.out).mono ?_; rintro e w1 ⟨rfl, hb1⟩; have HB1 := aM (HB4.out.trans (hb1.mono HB4.out.size)); have BKr1 := aM (kB BKr4.out hb1); have BKz1 := aM (kB BKz.out hb1); have hcz0 : w1.cell? ⟨gz, 0, none⟩ = some (.int .i64 0) := (kC BKz1.out 0).trans rfl; have hfz0 := kF BKz1.out 0; have hcr0 : w1.cell? ⟨gr, 0, none⟩ = some (.int .i64 0) := (kC BKr1.out 0).trans rfl; have hfr0 := kF BKr1.out 0; have hcz1 : w1.cell? ⟨gz, 1, none⟩ = some (.int .i64 0) := (kC BKz1.out 1).trans rfl; have hfz1 := kF BKz1.out 1; have hcr1 : w1.cell? ⟨gr, 1, none⟩ = some (.int .i64 0) := (kC BKr1.out 1).trans rfl; have hfr1 := kF BKr1.out 1; have hcz2 : w1.cell? ⟨gz, 2, none⟩ = some (.int .i64 0) := (kC BKz1.out 2).trans rfl; have hfz2 := kF BKz1.out 2; have hcr2 : w1.cell? ⟨gr, 2, none⟩ = some (.int .i64 0) := (kC BKr1.out 2).trans rfl; have hfr2 := kF BKr1.out 2; have hcz3 : w1.cell? ⟨gz, 3, none⟩ = some (.slice none 0 0) := (kC BKz1.out 3).trans rfl; have hfz3 := kF BKz1.out 3; have hcr3 : w1.cell? ⟨gr, 3, none⟩ = some (.slice none 0 0) := (kC BKr1.out 3).trans rfl; have hfr3 := kF BKr1.out 3; have hnrz := NRZ.out; clear hb1) | go_in)
  refine bodyPost_ret (results_ct rfl _ _ gr 39 #[.int .i64 0, .int .i64 0, .int .i64 0, .slice none 0 0] (0, 0) _ rfl (by (with_reducible repeat (first | refine kN ?_ _ | refine kD ?_ | refine kA ?_ _)); refine kP (cs := #[.int .i64 0, .int .i64 0, .int .i64 0, .slice none 0 0]) ?_ 3 _ rfl; (with_reducible repeat (first | refine kN ?_ _ | refine kD ?_ | refine kA ?_ _)); refine kP (cs := #[.int .i64 0, .int .i64 0, .int .i64 0, .slice none 0 0]) ?_ 2 _ rfl; (with_reducible repeat (first | refine kN ?_ _ | refine kD ?_ | refine kA ?_ _)); refine kP (cs := #[.int .i64 0, .int .i64 0, .int .i64 0, .slice none 0 0]) ?_ 1 _ rfl; (with_reducible repeat (first | refine kN ?_ _ | refine kD ?_ | refine kA ?_ _)); refine kP (cs := #[.int .i64 0, .int .i64 0, .int .i64 0, .slice none 0 0]) ?_ 0 _ rfl; (with_reducible repeat (first | refine kN ?_ _ | refine kD ?_ | refine kA ?_ _)); exact BKr1.out) Try.underlying39 rfl (by kernel_rfl)) rfl ?_
  exact ⟨none, 0, rfl, Kd.V_nil _ _ _ _ _, bl⟩
 ·replace hy : y = l0.getD kk z39 := hy
  obtain rfl : b = true := hb
  clear HI
  have hk0 : (0 : Int) ≤ (kk : Int) := Int.natCast_nonneg kk
  have hkl : (kk : Int) < (l0.length : Int) := by omega
  go_enter Try.func44, Try.ntmps44
  go_upto_region 4 with (first | ((with_reducible refine gate_dst (N := 4) rfl ?_); refine bx (N := 4) (cs := #[.int .i64 0, .int .i64 0, .int .i64 0, .slice none 0 0]) (t := 39) ?_; intro gr hg w3 hbox hb; have HB3 := aM hb; have BKr := aM hbox; have GEr := aM (Nat.le_of_eq hg.symm); clear hb hbox hg) | ((with_reducible refine gate_dst (N := 6) rfl ?_); refine bx (N := 6) (cs := #[.int .i64 0, .int .i64 0, .int .i64 0, .slice none 0 0]) (t := 39) ?_; intro gz hg w4 hbox hb; have HB4 := aM (HB3.out.trans (hb.mono HB3.out.size)); have BKr4 := aM (kB BKr.out hb); have BKz := aM hbox; have NRZ := aM (by rw [hg]; exact Nat.ne_of_lt (blk_lt BKr.out) : gr ≠ gz); clear BKr HB3 hb hbox hg) | (go_at_call 79; refine (HX.out w4 HB4.out).mono ?_; rintro e w1 ⟨rfl, hb1⟩; have HB1 := aM (HB4.out.trans (hb1.mono HB4.out.size)); have BKr1 := aM (kB BKr4.out hb1); have BKz1 := aM (kB BKz.out hb1); clear hb1) | go_in)
  have HV1 := aM (Kd.V_below (Kd.V_elderB HV.out gr GEr.out) HB1.out)
  obtain ⟨ad, A3, c3, e0, hx0, hx1, hx2, hx3, hl3, hi3⟩ := at_T39 (Kd.V_reads' HV1.out).2.2 (kk : Int) hk0 hkl
  cases e0
  obtain ⟨ce, hce, hMe, hcc⟩ := Kd.V_get HV1.out z39 (kk : Int) hk0 hkl
  obtain ⟨ua3, uc3, rfl, ul3, ge3⟩ := k39_openF hMe
  have hv3 := hcc 3 _ rfl
  rw [add_field _ _ 3 (by omega)] at hv3
  replace hv3 := Option.some.inj (hv3.symm.trans hx3)
  injection hv3 with hva_ hvn_ hvc_
  rw [hva_] at ge3
  rw [hvc_] at ul3
  have hS3 := (show Kd.V k70 70 w1 w.heap.size _ (.slice A3 (rd_T39 l0 (kk : Int)).f2.length c3) ((rd_T39 l0 (kk : Int)).f2) from Kd.V_mk ul3 ge3)
  clear hva_ hvn_ hvc_ ge3 ul3 hcc hce hl3 hi3
  have hry : rd_T39 l0 (kk : Int) = y := by unfold rd_T39; rw [Int.toNat_natCast, hy]
  rw [hry] at hx0 hx1 hx2 hx3 hS3
  rw [Int.toNat_natCast] at hx0 hx1 hx2 hx3
  have HS3 := aM hS3
  clear hS3 hry hMe hy
  have hcr0 : w1.cell? ⟨gr, 0, none⟩ = some (.int .i64 0) := (kC BKr1.out 0).trans rfl; have hfr0 := kF BKr1.out 0; have hcr1 : w1.cell? ⟨gr, 1, none⟩ = some (.int .i64 0) := (kC BKr1.out 1).trans rfl; have hfr1 := kF BKr1.out 1; have hcr2 : w1.cell? ⟨gr, 2, none⟩ = some (.int .i64 0) := (kC BKr1.out 2).trans rfl; have hfr2 := kF BKr1.out 2; have hcr3 : w1.cell? ⟨gr, 3, none⟩ = some (.slice none 0 0) := (kC BKr1.out 3).trans rfl; have hfr3 := kF BKr1.out 3
  have hkr : IntKind.i64.wrap (kk : Int) = (kk : Int) := by rw [IntKind.wrap_i64]; omega
  go_wp2
  refine bodyPost_ret (results_ct rfl _ _ gr 39 #[.int .i64 y.f0, .int .i64 y.f1.f0, .int .i64 y.f1.f1, .slice A3 y.f2.length c3] (0, 0) _ rfl (by (with_reducible repeat (first | refine kN ?_ _ | refine kD ?_ | refine kA ?_ _)); refine kP (cs := #[.int .i64 y.f0, .int .i64 y.f1.f0, .int .i64 y.f1.f1, .slice none 0 0]) ?_ 3 _ rfl; (with_reducible repeat (first | refine kN ?_ _ | refine kD ?_ | refine kA ?_ _)); refine kP (cs := #[.int .i64 y.f0, .int .i64 y.f1.f0, .int .i64 0, .slice none 0 0]) ?_ 2 _ rfl; (with_reducible repeat (first | refine kN ?_ _ | refine kD ?_ | refine kA ?_ _)); refine kP (cs := #[.int .i64 y.f0, .int .i64 0, .int .i64 0, .slice none 0 0]) ?_ 1 _ rfl; (with_reducible repeat (first | refine kN ?_ _ | refine kD ?_ | refine kA ?_ _)); refine kP (cs := #[.int .i64 0, .int .i64 0, .int .i64 0, .slice none 0 0]) ?_ 0 _ rfl; (with_reducible repeat (first | refine kN ?_ _ | refine kD ?_ | refine kA ?_ _)); exact BKr1.out) Try.underlying39 rfl (by kernel_rfl)) rfl ?_
  exact ⟨A3, c3, rfl, by (with_reducible repeat (first | apply Kd.V_alloc | apply Kd.V_drewN | apply Kd.V_drew)); exact Kd.V_mono (Kd.V_far (p := ⟨gr, 3, none⟩) (Kd.V_far (p := ⟨gr, 2, none⟩) (Kd.V_far (p := ⟨gr, 1, none⟩) (Kd.V_far (p := ⟨gr, 0, none⟩) HS3.out (fun _ hk => hk.2) (.int .i64 y.f0)) (fun _ hk => hk.2) (.int .i64 y.f1.f0)) (fun _ hk => hk.2) (.int .i64 y.f1.f1)) (fun _ hk => hk.2) (.slice A3 y.f2.length c3)) (fun _ hk => hk.1), bl⟩
theorem closure45 (a1 : Int) (B : Nat) (w : World) (hB : B < w.heap.size) (hcell : w.cell? ⟨B, 0, none⟩ = some (.int .i64 a1)) (W : World) (x : S39) (A3 : Option Addr) (c3 : Nat) (hb : Below w.heap.size w W) :
  Calls Try.prog 45 (#[.agg #[.int .i64 x.f0, .int .i64 x.f1.f0, .int .i64 x.f1.f1, .slice A3 x.f2.length c3]] ++ #[.pointer (some ⟨B, 0, none⟩)]) W fun e w' => e = .returned (.bool (x.f0 == a1)) ∧ Below W.heap.size W w' := by
 have hu39 := Try.underlying39
 have hc : W.cell? ⟨B, 0, none⟩ = some (.int .i64 a1) := (hb.cell (p := ⟨B, 0, none⟩) hB).trans hcell
 have hBW : B < W.heap.size := Nat.lt_of_lt_of_le hB hb.size
 have hne : B ≠ W.heap.size := by omega
 have HB := aM (Below.refl W.heap.size W)
 clear hb hcell
 show Calls Try.prog 45 #[.agg #[.int .i64 x.f0, .int .i64 x.f1.f0, .int .i64 x.f1.f1, .slice A3 x.f2.length c3], .pointer (some ⟨B, 0, none⟩)] W _
 go_enter Try.func45, Try.ntmps45
 go_wp2
 go_ret
 exact ⟨rfl, by repeat (first | (with_reducible first | exact HB.out | apply bN | apply bD) | (refine (HB.out.alloc HB.out.size _)))⟩
def data_Node.f (l0_0 : List S39) (l0_1 : List S45) (l0_2 : List S51) (a1 : Int) : Option (Int × Int × Int × (List (S70)) × Bool) := some (((l0_0.find? (fun x => x.f0 == a1)).getD z39).f0, ((l0_0.find? (fun x => x.f0 == a1)).getD z39).f1.f0, ((l0_0.find? (fun x => x.f0 == a1)).getD z39).f1.f1, ((l0_0.find? (fun x => x.f0 == a1)).getD z39).f2, (l0_0.find? (fun x => x.f0 == a1)).isSome)
set_option maxHeartbeats 8000000 in
set_option maxRecDepth 100000 in
theorem data_Node.calls (P0_0_ : Nat → Prop) (A0_0 : Option Addr) (c0_0 : Nat) (l0_0 : List (S39)) (A0_1 : Option Addr) (c0_1 : Nat) (l0_1 : List (S45)) (A0_2 : Option Addr) (c0_2 : Nat) (l0_2 : List (S51)) (a1 : Int) (r1 : Int) (r2 : Int) (r3 : Int) (r4 : (List (S70))) (r5 : Bool) (w : World) (hs0_0 : Kd.V k39 39 w w.heap.size (fun k_ => P0_0_ k_) (.slice A0_0 l0_0.length c0_0) l0_0) (hr0_1 : Kd.C k45 w A0_1 l0_1.length l0_1) (hc0_1 : l0_1.length ≤ c0_1) (hr0_2 : Kd.C k51 w A0_2 l0_2.length l0_2) (hc0_2 : l0_2.length ≤ c0_2) (h : data_Node.f l0_0 l0_1 l0_2 a1 = some (r1, r2, r3, r4, r5)) :
  Calls Try.prog 12 #[.agg #[.slice A0_0 l0_0.length c0_0, .slice A0_1 l0_1.length c0_1, .slice A0_2 l0_2.length c0_2], .int .i64 a1] w fun e w' => ∃ (v3_ : Value), e = .returned (.tuple #[.agg #[.int .i64 r1, .int .i64 r2, .int .i64 r3, v3_], .bool r5]) ∧ Kd.V k70 70 w' w.heap.size (fun k_ => (P0_0_ k_ ∨ w.heap.size ≤ k_)) v3_ r4 ∧ Below w.heap.size w w' := by
 have hu26 := Try.underlying26
 have hu39 := Try.underlying39
 obtain ⟨y, hy⟩ : ∃ y, y = (l0_0.find? (fun x => x.f0 == a1)).getD z39 := ⟨_, rfl⟩
 obtain ⟨b, hbb⟩ : ∃ b, b = (l0_0.find? (fun x => x.f0 == a1)).isSome := ⟨_, rfl⟩
 have HY := aM hy
 have HBB := aM hbb
 unfold data_Node.f at h
 rw [← hy, ← hbb] at h
 simp only [Option.some.injEq, Prod.mk.injEq] at h
 obtain ⟨rfl, rfl, rfl, rfl, rfl⟩ := h
 clear hy hbb
 have eg : ∀ args w, (callFunc 45 args).run Try.prog w = .ok (.enter 45 args) w := enters_of Try.func45 (by kernel_rfl) rfl
 have HS := aM (show Kd.V k39 39 w w.heap.size (fun k_ => P0_0_ k_) (.slice A0_0 l0_0.length c0_0) l0_0 from hs0_0)
 have HB := aM (Below.refl w.heap.size w)
 clear hs0_0 hr0_1 hr0_2
 go_enter Try.func12, Try.ntmps12
 go_upto_region 1 with (first | ((with_reducible refine gate_dst (N := 2) rfl ?_); refine bx (N := 2) (cs := #[.slice A0_0 l0_0.length c0_0, .slice A0_1 l0_1.length c0_1, .slice A0_2 l0_2.length c0_2]) (t := 26) ?_; intro gd hg w1 hbox hb; have HB1 := aM hb; have BKd := aM hbox; have GEd := aM (Nat.le_of_eq hg.symm); clear hb hbox hg) | ((with_reducible refine gate_dst (N := 3) rfl ?_); refine bx (N := 3) (cs := #[.int .i64 a1]) (t := 3) ?_; intro gi hg w2 hbox hb; have HB2 := aM (HB1.out.trans (hb.mono HB1.out.size)); have BKd2 := aM (kB BKd.out hb); have BKi := aM hbox; have NDI := aM (by rw [hg]; exact Nat.ne_of_lt (blk_lt BKd.out) : gd ≠ gi); clear BKd HB1 hb hbox hg) | ((with_reducible refine gate_dst (N := 4) rfl ?_); refine bx (N := 4) (cs := #[.int .i64 0, .int .i64 0, .int .i64 0, .slice none 0 0]) (t := 39) ?_; intro gr hg w3 hbox hb; have HB3 := aM (HB2.out.trans (hb.mono HB2.out.size)); have BKd3 := aM (kB BKd2.out hb); have BKi3 := aM (kB BKi.out hb); have BKr := aM hbox; have GEr := aM (by rw [hg]; exact HB2.out.size : w.heap.size ≤ gr); have NDR := aM (by rw [hg]; exact Nat.ne_of_lt (blk_lt BKd2.out) : gd ≠ gr); have NIR := aM (by rw [hg]; exact Nat.ne_of_lt (blk_lt BKi.out) : gi ≠ gr); clear BKd2 BKi HB2 hb hbox hg) | go_in)
 have HF := aM (find44 (fun x => x.f0 == a1) 45 #[.pointer (some ⟨gi, 0, none⟩)] eg (fun k_ => P0_0_ k_ ∧ k_ ≠ gr) A0_0 c0_0 l0_0 w3 (Kd.V_below (Kd.V_elderB HS.out gr GEr.out) HB3.out) (closure45 a1 gi w3 (blk_lt BKi3.out) ((kC BKi3.out 0).trans rfl)) y b HY.out HBB.out)
 have hcd0 : w3.cell? ⟨gd, 0, none⟩ = some (.slice A0_0 l0_0.length c0_0) := (kC BKd3.out 0).trans rfl
 have hfd := kF BKd3.out 0
 go_wp2_with (first | (go_at_call 44; refine HF.out.mono ?_; rintro e w4 ⟨A3, c3, rfl, hv3, hb4⟩; have HW3 := aM hv3; have HB4 := aM (HB3.out.trans (hb4.mono HB3.out.size)); have BKr4 := aM (kB BKr.out hb4); have hcr0 : w4.cell? ⟨gr, 0, none⟩ = some (.int .i64 0) := (kC BKr4.out 0).trans rfl; have hfr0 := kF BKr4.out 0; have hcr1 : w4.cell? ⟨gr, 1, none⟩ = some (.int .i64 0) := (kC BKr4.out 1).trans rfl; have hfr1 := kF BKr4.out 1; have hcr2 : w4.cell? ⟨gr, 2, none⟩ = some (.int .i64 0) := (kC BKr4.out 2).trans rfl; have hfr2 := kF BKr4.out 2; have hcr3 : w4.cell? ⟨gr, 3, none⟩ = some (.slice none 0 0) := (kC BKr4.out 3).trans rfl; have hfr3 := kF BKr4.out 3; clear hb4 hv3) | go_in)
 refine bodyPost_ret (results_ct rfl _ _ gr 39 #[.int .i64 y.f0, .int .i64 y.f1.f0, .int .i64 y.f1.f1, .slice A3 y.f2.length c3] (0, 0) _ rfl (by (with_reducible repeat (first | refine kN ?_ _ | refine kD ?_ | refine kA ?_ _)); refine kP (cs := #[.int .i64 y.f0, .int .i64 y.f1.f0, .int .i64 y.f1.f1, .slice none 0 0]) ?_ 3 _ rfl; (with_reducible repeat (first | refine kN ?_ _ | refine kD ?_ | refine kA ?_ _)); refine kP (cs := #[.int .i64 y.f0, .int .i64 y.f1.f0, .int .i64 0, .slice none 0 0]) ?_ 2 _ rfl; (with_reducible repeat (first | refine kN ?_ _ | refine kD ?_ | refine kA ?_ _)); refine kP (cs := #[.int .i64 y.f0, .int .i64 0, .int .i64 0, .slice none 0 0]) ?_ 1 _ rfl; (with_reducible repeat (first | refine kN ?_ _ | refine kD ?_ | refine kA ?_ _)); refine kP (cs := #[.int .i64 0, .int .i64 0, .int .i64 0, .slice none 0 0]) ?_ 0 _ rfl; (with_reducible repeat (first | refine kN ?_ _ | refine kD ?_ | refine kA ?_ _)); exact BKr4.out) Try.underlying39 rfl (by kernel_rfl)) rfl ?_
 exact ⟨.slice A3 y.f2.length c3, rfl, by (with_reducible repeat (first | apply Kd.V_alloc | apply Kd.V_drewN | apply Kd.V_drew)); exact Kd.V_mono (Kd.V_far (p := ⟨gr, 3, none⟩) (Kd.V_far (p := ⟨gr, 2, none⟩) (Kd.V_far (p := ⟨gr, 1, none⟩) (Kd.V_far (p := ⟨gr, 0, none⟩) HW3.out (fun _ hk => hk.2) (.int .i64 y.f0)) (fun _ hk => hk.2) (.int .i64 y.f1.f0)) (fun _ hk => hk.2) (.int .i64 y.f1.f1)) (fun _ hk => hk.2) (.slice A3 y.f2.length c3)) (fun _ hk => .inl hk.1), bl⟩
set_option maxHeartbeats 4000000 in
set_option maxRecDepth 100000 in
theorem ix81 (p : S51 → Bool) (g : Nat) (lb : Array Value) (eg : ∀ args w, (callFunc g args).run Try.prog w = .ok (.enter g args) w) (A0 : Option Addr) (c0 : Nat) (l0 : List S51) (w : World) (hr0 : Kd.C k51 w A0 l0.length l0)
  (hp : ∀ (W : World) (x : S51) (A1 : Option Addr) (c1 : Nat) (A2 : Option Addr) (c2 : Nat), Below w.heap.size w W → Calls Try.prog g (#[.agg #[.int .i64 x.f0, .slice A1 x.f1.length c1, .slice A2 x.f2.length c2]] ++ lb) W fun e w' => e = .returned (.bool (p x)) ∧ Below W.heap.size W w') :
  Calls Try.prog 81 #[.slice A0 l0.length c0, .func (.func g) #[] lb] w fun e w' => e = .returned (.int .i64 (ixOf p l0)) ∧ Below w.heap.size w w' := by
 have hbig : l0.length ≤ 9223372036854775807 := hr0.2.1
 have HR0 := aM hr0
 clear hr0
 have HP := aM hp
 clear hp
 go_enter Try.func81, Try.ntmps81
 go_wp2
 go_loopg [5, 8] l0.length (fun gg _ s8 wr => ∃ kk : Int, 0 ≤ kk ∧ kk ≤ (l0.length : Int) ∧ (l0.length : Int) - kk ≤ gg ∧ s8 = .int .i64 kk ∧ Aside0 (Below w.heap.size w wr) ∧ Aside0 (∀ j : Nat, (j : Int) < kk → p (l0.getD j z51) = false))
 case atStart => exact ⟨0, by omega, by omega, by omega, rfl, ⟨Below.refl _ w⟩, ⟨fun j hj => absurd hj (by omega)⟩⟩
 case round =>
  obtain ⟨kk, hk0, hkk, hg, rfl, BW, AA⟩ := hrel
  by_cases hlt : kk < (l0.length : Int)
  ·obtain ⟨ad, A1, c1, A2, c2, e0, hx0, hx1, hx2, hl1, hi1, hl2, hi2⟩ := at_T51 (Kd.C_below HR0.out BW.out) kk hk0 hlt
   cases e0
   have hcall := HP.out wr (rd_T51 l0 kk) A1 c1 A2 c2 BW.out
   have B := aM (show rd_T51 l0 kk = l0.getD kk.toNat z51 from rfl)
   clear hl1 hi1 hl2 hi2
   generalize rd_T51 l0 kk = y at hcall hx0 hx1 hx2 B
   cases hq : p y with
   | true =>
    rw [hq] at hcall
    have HQ := aM hq
    clear hq
    go_wp2_with (go_at_fn g; refine hcall.mono ?_; rintro e w' ⟨rfl, hb'⟩)
    go_ret
    refine ⟨?_, BW.out.trans (hb'.mono BW.out.size)⟩
    rw [ixOf_hit p l0 z51 kk.toNat (by omega) (by rw [← B.out]; exact HQ.out) (fun j hj => AA.out j (by omega))]
    rw [Int.toNat_of_nonneg hk0]
    rfl
   | false =>
    rw [hq] at hcall
    have HQ := aM hq
    clear hq
    go_wp2_with (go_at_fn g; refine hcall.mono ?_; rintro e w' ⟨rfl, hb'⟩)
    go_roundg (l0.length - (kk.toNat + 1))
    case measure => omega
    case rel =>
     refine ⟨kk + 1, by omega, by omega, by omega, by go_num, ⟨BW.out.trans (hb'.mono BW.out.size)⟩, ⟨fun j hj => ?_⟩⟩
     by_cases e : (j : Int) = kk
     ·have : j = kk.toNat := by omega
      subst this
      rw [← B.out]; exact HQ.out
     ·exact AA.out j (by omega)
  ·have : kk = (l0.length : Int) := by omega
   subst this
   go_wp2
   go_ret
   refine ⟨?_, BW.out⟩
   rw [ixOf_miss p l0 z51 (fun j hj => AA.out j (by omega))]
   rfl
set_option maxHeartbeats 4000000 in
set_option maxRecDepth 100000 in
theorem find48 (p : S51 → Bool) (g : Nat) (lb : Array Value) (eg : ∀ args w, (callFunc g args).run Try.prog w = .ok (.enter g args) w) (P0_ : Nat → Prop) (A0 : Option Addr) (c0 : Nat) (l0 : List S51) (w : World) (hs0 : Kd.V k51 51 w w.heap.size P0_ (.slice A0 l0.length c0) l0)
  (hp : ∀ (W : World) (x : S51) (A1 : Option Addr) (c1 : Nat) (A2 : Option Addr) (c2 : Nat), Below w.heap.size w W → Calls Try.prog g (#[.agg #[.int .i64 x.f0, .slice A1 x.f1.length c1, .slice A2 x.f2.length c2]] ++ lb) W fun e w' => e = .returned (.bool (p x)) ∧ Below W.heap.size W w') (y : S51) (b : Bool) (hy : y = (l0.find? p).getD z51) (hb : b = (l0.find? p).isSome) :
  Calls Try.prog 48 #[.slice A0 l0.length c0, .func (.func g) #[] lb] w fun e w' => ∃ (A1 : Option Addr) (c1 : Nat) (A2 : Option Addr) (c2 : Nat), e = .returned (.tuple #[.agg #[.int .i64 y.f0, .slice A1 y.f1.length c1, .slice A2 y.f2.length c2], .bool b]) ∧ Kd.V k67 67 w' w.heap.size P0_ (.slice A1 y.f1.length c1) y.f1 ∧ Kd.V k70 70 w' w.heap.size P0_ (.slice A2 y.f2.length c2) y.f2 ∧ Below w.heap.size w w' := by
 have hu51 := Try.underlying51
 have HI := aM (ixOf_find p l0 z51)
 have HX : Aside0 (∀ W, Below w.heap.size w W → Calls Try.prog 81 #[.slice A0 l0.length c0, .func (.func g) #[] lb] W fun e w' => e = .returned (.int .i64 (ixOf p l0)) ∧ Below W.heap.size W w') := ⟨fun W hW => ix81 p g lb eg A0 c0 l0 W (Kd.C_below (Kd.V_reads' hs0).2.2 hW) (fun W' x A1 c1 A2 c2 hb' => hp W' x A1 c1 A2 c2 (hW.trans (hb'.mono hW.size)))⟩
 have HV := aM hs0
 have hbig : l0.length ≤ 9223372036854775807 := (Kd.V_reads' hs0).2.2.2.1
 clear hs0 hp
 generalize l0.find? p = o at HI hy hb
 generalize ixOf p l0 = n at HI HX
 rcases HI.out with ⟨rfl, rfl⟩ | ⟨kk, rfl, hk, rfl⟩
 ·obtain rfl : y = z51 := hy
  obtain rfl : b = false := hb
  clear HI
  go_enter Try.func48, Try.ntmps48
  go_wp2_with (first | ((with_reducible refine gate_dst (N := 4) rfl ?_); refine bx (N := 4) (cs := #[.int .i64 0, .slice none 0 0, .slice none 0 0]) (t := 51) ?_; intro gr hg w3 hbox hb; have HB3 := aM hb; have BKr := aM hbox; have GEr := aM (Nat.le_of_eq hg.symm); clear hb hbox hg) | ((with_reducible refine gate_dst (N := 6) rfl ?_); refine bx (N := 6) (cs := #[.int .i64 0, .slice none 0 0, .slice none 0 0]) (t := 51) ?_; intro gz hg w4 hbox hb; have HB4 := aM (HB3.out.trans (hb.mono HB3.out.size)); have BKr4 := aM (kB BKr.out hb); have BKz := aM hbox; have NRZ := aM (by rw [hg]; exact Nat.ne_of_lt (blk_lt BKr.out) : gr ≠ gz); clear BKr HB3 hb hbox hg) | (go_at_call 81; refine (HX.out w4 HB4.out).mono ?_; rintro e w1 ⟨rfl, hb1⟩; have HB1 := aM (HB4.out.trans (hb1.mono HB4.out.size)); have BKr1 := aM (kB BKr4.out hb1); have BKz1 := aM (kB BKz.out hb1); have hcz0 : w1.cell? ⟨gz, 0, none⟩ = some (.int .i64 0) := (kC BKz1.out 0).trans rfl; have hfz0 := kF BKz1.out 0; have hcr0 : w1.cell? ⟨gr, 0, none⟩ = some (.int .i64 0) := (kC BKr1.out 0).trans rfl; have hfr0 := kF BKr1.out 0; have hcz1 : w1.cell? ⟨gz, 1, none⟩ = some (.slice none 0 0) := (kC BKz1.out 1).trans rfl; have hfz1 := kF BKz1.out 1; have hcr1 : w1.cell? ⟨gr, 1, none⟩ = some (.slice none 0 0) := (kC BKr1.out 1).trans rfl; have hfr1 := kF BKr1.out 1; have hcz2 : w1.cell? ⟨gz, 2, none⟩ = some (.slice none 0 0) := (kC BKz1.out 2).trans rfl; have hfz2 := kF BKz1.out 2; have hcr2 : w1.cell? ⟨gr, 2, none⟩ = some (.slice none 0 0) := (kC BKr1.out 2).trans rfl; have hfr2 := kF BKr1.out 2; have hnrz := NRZ.out; clear hb1) | go_in)
  refine bodyPost_ret (results_ct rfl _ _ gr 51 #[.int .i64 0, .slice none 0 0, .slice none 0 0] (0, 0) _ rfl (by (with_reducible repeat (first | refine kN ?_ _ | refine kD ?_ | refine kA ?_ _)); refine kP (cs := #[.int .i64 0, .slice none 0 0, .slice none 0 0]) ?_ 2 _ rfl; (with_reducible repeat (first | refine kN ?_ _ | refine kD ?_ | refine kA ?_ _)); refine kP (cs := #[.int .i64 0, .slice none 0 0, .slice none 0 0]) ?_ 1 _ rfl; (with_reducible repeat (first | refine kN ?_ _ | refine kD ?_ | refine kA ?_ _)); refine kP (cs := #[.int .i64 0, .slice none 0 0, .slice none 0 0]) ?_ 0 _ rfl; (with_reducible repeat (first | refine kN ?_ _ | refine kD ?_ | refine kA ?_ _)); exact BKr1.out) Try.underlying51 rfl (by kernel_rfl)) rfl ?_
  exact ⟨none, 0, none, 0, rfl, Kd.V_nil _ _ _ _ _, Kd.V_nil _ _ _ _ _, bl⟩
 ·replace hy : y = l0.getD kk z51 := hy
  obtain rfl : b = true := hb
  clear HI
  have hk0 : (0 : Int) ≤ (kk : Int) := Int.natCast_nonneg kk
  have hkl : (kk : Int) < (l0.length : Int) := by omega
  go_enter Try.func48, Try.ntmps48
  go_upto_region 4 with (first | ((with_reducible refine gate_dst (N := 4) rfl ?_); refine bx (N := 4) (cs := #[.int .i64 0, .slice none 0 0, .slice none 0 0]) (t := 51) ?_; intro gr hg w3 hbox hb; have HB3 := aM hb; have BKr := aM hbox; have GEr := aM (Nat.le_of_eq hg.symm); clear hb hbox hg) | ((with_reducible refine gate_dst (N := 6) rfl ?_); refine bx (N := 6) (cs := #[.int .i64 0, .slice none 0 0, .slice none 0 0]) (t := 51) ?_; intro gz hg w4 hbox hb; have HB4 := aM (HB3.out.trans (hb.mono HB3.out.size)); have BKr4 := aM (kB BKr.out hb); have BKz := aM hbox; have NRZ := aM (by rw [hg]; exact Nat.ne_of_lt (blk_lt BKr.out) : gr ≠ gz); clear BKr HB3 hb hbox hg) | (go_at_call 81; refine (HX.out w4 HB4.out).mono ?_; rintro e w1 ⟨rfl, hb1⟩; have HB1 := aM (HB4.out.trans (hb1.mono HB4.out.size)); have BKr1 := aM (kB BKr4.out hb1); have BKz1 := aM (kB BKz.out hb1); clear hb1) | go_in)
  have HV1 := aM (Kd.V_below (Kd.V_elderB HV.out gr GEr.out) HB1.out)
  obtain ⟨ad, A1, c1, A2, c2, e0, hx0, hx1, hx2, hl1, hi1, hl2, hi2⟩ := at_T51 (Kd.V_reads' HV1.out).2.2 (kk : Int) hk0 hkl
  cases e0
  obtain ⟨ce, hce, hMe, hcc⟩ := Kd.V_get HV1.out z51 (kk : Int) hk0 hkl
  obtain ⟨ua1, uc1, ua2, uc2, rfl, ul1, ge1, ul2, ge2⟩ := k51_openF hMe
  have hv1 := hcc 1 _ rfl
  rw [add_field _ _ 1 (by omega)] at hv1
  replace hv1 := Option.some.inj (hv1.symm.trans hx1)
  injection hv1 with hva_ hvn_ hvc_
  rw [hva_] at ge1
  rw [hvc_] at ul1
  have hS1 := (show Kd.V k67 67 w1 w.heap.size _ (.slice A1 (rd_T51 l0 (kk : Int)).f1.length c1) ((rd_T51 l0 (kk : Int)).f1) from Kd.V_mk ul1 ge1)
  clear hva_ hvn_ hvc_ ge1 ul1
  have hv2 := hcc 2 _ rfl
  rw [add_field _ _ 2 (by omega)] at hv2
  replace hv2 := Option.some.inj (hv2.symm.trans hx2)
  injection hv2 with hva_ hvn_ hvc_
  rw [hva_] at ge2
  rw [hvc_] at ul2
  have hS2 := (show Kd.V k70 70 w1 w.heap.size _ (.slice A2 (rd_T51 l0 (kk : Int)).f2.length c2) ((rd_T51 l0 (kk : Int)).f2) from Kd.V_mk ul2 ge2)
  clear hva_ hvn_ hvc_ ge2 ul2 hcc hce hl1 hi1 hl2 hi2
  have hry : rd_T51 l0 (kk : Int) = y := by unfold rd_T51; rw [Int.toNat_natCast, hy]
  rw [hry] at hx0 hx1 hx2 hS1 hS2
  rw [Int.toNat_natCast] at hx0 hx1 hx2
  have HS1 := aM hS1; have HS2 := aM hS2
  clear hS1 hS2 hry hMe hy
  have hcr0 : w1.cell? ⟨gr, 0, none⟩ = some (.int .i64 0) := (kC BKr1.out 0).trans rfl; have hfr0 := kF BKr1.out 0; have hcr1 : w1.cell? ⟨gr, 1, none⟩ = some (.slice none 0 0) := (kC BKr1.out 1).trans rfl; have hfr1 := kF BKr1.out 1; have hcr2 : w1.cell? ⟨gr, 2, none⟩ = some (.slice none 0 0) := (kC BKr1.out 2).trans rfl; have hfr2 := kF BKr1.out 2
  have hkr : IntKind.i64.wrap (kk : Int) = (kk : Int) := by rw [IntKind.wrap_i64]; omega
  go_wp2
  refine bodyPost_ret (results_ct rfl _ _ gr 51 #[.int .i64 y.f0, .slice A1 y.f1.length c1, .slice A2 y.f2.length c2] (0, 0) _ rfl (by (with_reducible repeat (first | refine kN ?_ _ | refine kD ?_ | refine kA ?_ _)); refine kP (cs := #[.int .i64 y.f0, .slice A1 y.f1.length c1, .slice none 0 0]) ?_ 2 _ rfl; (with_reducible repeat (first | refine kN ?_ _ | refine kD ?_ | refine kA ?_ _)); refine kP (cs := #[.int .i64 y.f0, .slice none 0 0, .slice none 0 0]) ?_ 1 _ rfl; (with_reducible repeat (first | refine kN ?_ _ | refine kD ?_ | refine kA ?_ _)); refine kP (cs := #[.int .i64 0, .slice none 0 0, .slice none 0 0]) ?_ 0 _ rfl; (with_reducible repeat (first | refine kN ?_ _ | refine kD ?_ | refine kA ?_ _)); exact BKr1.out) Try.underlying51 rfl (by kernel_rfl)) rfl ?_
  exact ⟨A1, c1, A2, c2, rfl, by (with_reducible repeat (first | apply Kd.V_alloc | apply Kd.V_drewN | apply Kd.V_drew)); exact Kd.V_mono (Kd.V_far (p := ⟨gr, 2, none⟩) (Kd.V_far (p := ⟨gr, 1, none⟩) (Kd.V_far (p := ⟨gr, 0, none⟩) HS1.out (fun _ hk => hk.2) (.int .i64 y.f0)) (fun _ hk => hk.2) (.slice A1 y.f1.length c1)) (fun _ hk => hk.2) (.slice A2 y.f2.length c2)) (fun _ hk => hk.1), by (with_reducible repeat (first | apply Kd.V_alloc | apply Kd.V_drewN | apply Kd.V_drew)); exact Kd.V_mono (Kd.V_far (p := ⟨gr, 2, none⟩) (Kd.V_far (p := ⟨gr, 1, none⟩) (Kd.V_far (p := ⟨gr, 0, none⟩) HS2.out (fun _ hk => hk.2) (.int .i64 y.f0)) (fun _ hk => hk.2) (.slice A1 y.f1.length c1)) (fun _ hk => hk.2) (.slice A2 y.f2.length c2)) (fun _ hk => hk.1), bl⟩
theorem closure49 (a1 : Int) (B : Nat) (w : World) (hB : B < w.heap.size) (hcell : w.cell? ⟨B, 0, none⟩ = some (.int .i64 a1)) (W : World) (x : S51) (A1 : Option Addr) (c1 : Nat) (A2 : Option Addr) (c2 : Nat) (hb : Below w.heap.size w W) :
  Calls Try.prog 49 (#[.agg #[.int .i64 x.f0, .slice A1 x.f1.length c1, .slice A2 x.f2.length c2]] ++ #[.pointer (some ⟨B, 0, none⟩)]) W fun e w' => e = .returned (.bool (x.f0 == a1)) ∧ Below W.heap.size W w' := by
 have hu51 := Try.underlying51
 have hc : W.cell? ⟨B, 0, none⟩ = some (.int .i64 a1) := (hb.cell (p := ⟨B, 0, none⟩) hB).trans hcell
 have hBW : B < W.heap.size := Nat.lt_of_lt_of_le hB hb.size
 have hne : B ≠ W.heap.size := by omega
 have HB := aM (Below.refl W.heap.size W)
 clear hb hcell
 show Calls Try.prog 49 #[.agg #[.int .i64 x.f0, .slice A1 x.f1.length c1, .slice A2 x.f2.length c2], .pointer (some ⟨B, 0, none⟩)] W _
 go_enter Try.func49, Try.ntmps49
 go_wp2
 go_ret
 exact ⟨rfl, by repeat (first | (with_reducible first | exact HB.out | apply bN | apply bD) | (refine (HB.out.alloc HB.out.size _)))⟩
def data_Rel.f (l0_0 : List S39) (l0_1 : List S45) (l0_2 : List S51) (a1 : Int) : Option (Int × (List (S67)) × (List (S70)) × Bool) := some (((l0_2.find? (fun x => x.f0 == a1)).getD z51).f0, ((l0_2.find? (fun x => x.f0 == a1)).getD z51).f1, ((l0_2.find? (fun x => x.f0 == a1)).getD z51).f2, (l0_2.find? (fun x => x.f0 == a1)).isSome)
set_option maxHeartbeats 8000000 in
set_option maxRecDepth 100000 in
theorem data_Rel.calls (A0_0 : Option Addr) (c0_0 : Nat) (l0_0 : List (S39)) (A0_1 : Option Addr) (c0_1 : Nat) (l0_1 : List (S45)) (P0_2_ : Nat → Prop) (A0_2 : Option Addr) (c0_2 : Nat) (l0_2 : List (S51)) (a1 : Int) (r1 : Int) (r2 : (List (S67))) (r3 : (List (S70))) (r4 : Bool) (w : World) (hr0_0 : Kd.C k39 w A0_0 l0_0.length l0_0) (hc0_0 : l0_0.length ≤ c0_0) (hr0_1 : Kd.C k45 w A0_1 l0_1.length l0_1) (hc0_1 : l0_1.length ≤ c0_1) (hs0_2 : Kd.V k51 51 w w.heap.size (fun k_ => P0_2_ k_) (.slice A0_2 l0_2.length c0_2) l0_2) (h : data_Rel.f l0_0 l0_1 l0_2 a1 = some (r1, r2, r3, r4)) :
  Calls Try.prog 18 #[.agg #[.slice A0_0 l0_0.length c0_0, .slice A0_1 l0_1.length c0_1, .slice A0_2 l0_2.length c0_2], .int .i64 a1] w fun e w' => ∃ (v1_ : Value) (v2_ : Value), e = .returned (.tuple #[.agg #[.int .i64 r1, v1_, v2_], .bool r4]) ∧ Kd.V k67 67 w' w.heap.size (fun k_ => (P0_2_ k_ ∨ w.heap.size ≤ k_)) v1_ r2 ∧ Kd.V k70 70 w' w.heap.size (fun k_ => (P0_2_ k_ ∨ w.heap.size ≤ k_)) v2_ r3 ∧ Below w.heap.size w w' := by
 have hu26 := Try.underlying26
 have hu51 := Try.underlying51
 obtain ⟨y, hy⟩ : ∃ y, y = (l0_2.find? (fun x => x.f0 == a1)).getD z51 := ⟨_, rfl⟩
 obtain ⟨b, hbb⟩ : ∃ b, b = (l0_2.find? (fun x => x.f0 == a1)).isSome := ⟨_, rfl⟩
 have HY := aM hy
 have HBB := aM hbb
 unfold data_Rel.f at h
 rw [← hy, ← hbb] at h
 simp only [Option.some.injEq, Prod.mk.injEq] at h
 obtain ⟨rfl, rfl, rfl, rfl⟩ := h
 clear hy hbb
 have eg : ∀ args w, (callFunc 49 args).run Try.prog w = .ok (.enter 49 args) w := enters_of Try.func49 (by kernel_rfl) rfl
 have HS := aM (show Kd.V k51 51 w w.heap.size (fun k_ => P0_2_ k_) (.slice A0_2 l0_2.length c0_2) l0_2 from hs0_2)
 have HB := aM (Below.refl w.heap.size w)
 clear hs0_2 hr0_0 hr0_1
 go_enter Try.func18, Try.ntmps18
 go_upto_region 1 with (first | ((with_reducible refine gate_dst (N := 2) rfl ?_); refine bx (N := 2) (cs := #[.slice A0_0 l0_0.length c0_0, .slice A0_1 l0_1.length c0_1, .slice A0_2 l0_2.length c0_2]) (t := 26) ?_; intro gd hg w1 hbox hb; have HB1 := aM hb; have BKd := aM hbox; have GEd := aM (Nat.le_of_eq hg.symm); clear hb hbox hg) | ((with_reducible refine gate_dst (N := 3) rfl ?_); refine bx (N := 3) (cs := #[.int .i64 a1]) (t := 3) ?_; intro gi hg w2 hbox hb; have HB2 := aM (HB1.out.trans (hb.mono HB1.out.size)); have BKd2 := aM (kB BKd.out hb); have BKi := aM hbox; have NDI := aM (by rw [hg]; exact Nat.ne_of_lt (blk_lt BKd.out) : gd ≠ gi); clear BKd HB1 hb hbox hg) | ((with_reducible refine gate_dst (N := 4) rfl ?_); refine bx (N := 4) (cs := #[.int .i64 0, .slice none 0 0, .slice none 0 0]) (t := 51) ?_; intro gr hg w3 hbox hb; have HB3 := aM (HB2.out.trans (hb.mono HB2.out.size)); have BKd3 := aM (kB BKd2.out hb); have BKi3 := aM (kB BKi.out hb); have BKr := aM hbox; have GEr := aM (by rw [hg]; exact HB2.out.size : w.heap.size ≤ gr); have NDR := aM (by rw [hg]; exact Nat.ne_of_lt (blk_lt BKd2.out) : gd ≠ gr); have NIR := aM (by rw [hg]; exact Nat.ne_of_lt (blk_lt BKi.out) : gi ≠ gr); clear BKd2 BKi HB2 hb hbox hg) | go_in)
 have HF := aM (find48 (fun x => x.f0 == a1) 49 #[.pointer (some ⟨gi, 0, none⟩)] eg (fun k_ => P0_2_ k_ ∧ k_ ≠ gr) A0_2 c0_2 l0_2 w3 (Kd.V_below (Kd.V_elderB HS.out gr GEr.out) HB3.out) (closure49 a1 gi w3 (blk_lt BKi3.out) ((kC BKi3.out 0).trans rfl)) y b HY.out HBB.out)
 have hcd2 : w3.cell? ⟨gd, 2, none⟩ = some (.slice A0_2 l0_2.length c0_2) := (kC BKd3.out 2).trans rfl
 have hfd := kF BKd3.out 2
 go_wp2_with (first | (go_at_call 48; refine HF.out.mono ?_; rintro e w4 ⟨A1, c1, A2, c2, rfl, hv1, hv2, hb4⟩; have HW1 := aM hv1; have HW2 := aM hv2; have HB4 := aM (HB3.out.trans (hb4.mono HB3.out.size)); have BKr4 := aM (kB BKr.out hb4); have hcr0 : w4.cell? ⟨gr, 0, none⟩ = some (.int .i64 0) := (kC BKr4.out 0).trans rfl; have hfr0 := kF BKr4.out 0; have hcr1 : w4.cell? ⟨gr, 1, none⟩ = some (.slice none 0 0) := (kC BKr4.out 1).trans rfl; have hfr1 := kF BKr4.out 1; have hcr2 : w4.cell? ⟨gr, 2, none⟩ = some (.slice none 0 0) := (kC BKr4.out 2).trans rfl; have hfr2 := kF BKr4.out 2; clear hb4 hv1 hv2) | go_in)
 refine bodyPost_ret (results_ct rfl _ _ gr 51 #[.int .i64 y.f0, .slice A1 y.f1.length c1, .slice A2 y.f2.length c2] (0, 0) _ rfl (by (with_reducible repeat (first | refine kN ?_ _ | refine kD ?_ | refine kA ?_ _)); refine kP (cs := #[.int .i64 y.f0, .slice A1 y.f1.length c1, .slice none 0 0]) ?_ 2 _ rfl; (with_reducible repeat (first | refine kN ?_ _ | refine kD ?_ | refine kA ?_ _)); refine kP (cs := #[.int .i64 y.f0, .slice none 0 0, .slice none 0 0]) ?_ 1 _ rfl; (with_reducible repeat (first | refine kN ?_ _ | refine kD ?_ | refine kA ?_ _)); refine kP (cs := #[.int .i64 0, .slice none 0 0, .slice none 0 0]) ?_ 0 _ rfl; (with_reducible repeat (first | refine kN ?_ _ | refine kD ?_ | refine kA ?_ _)); exact BKr4.out) Try.underlying51 rfl (by kernel_rfl)) rfl ?_
 exact ⟨.slice A1 y.f1.length c1, .slice A2 y.f2.length c2, rfl, by (with_reducible repeat (first | apply Kd.V_alloc | apply Kd.V_drewN | apply Kd.V_drew)); exact Kd.V_mono (Kd.V_far (p := ⟨gr, 2, none⟩) (Kd.V_far (p := ⟨gr, 1, none⟩) (Kd.V_far (p := ⟨gr, 0, none⟩) HW1.out (fun _ hk => hk.2) (.int .i64 y.f0)) (fun _ hk => hk.2) (.slice A1 y.f1.length c1)) (fun _ hk => hk.2) (.slice A2 y.f2.length c2)) (fun _ hk => .inl hk.1), by (with_reducible repeat (first | apply Kd.V_alloc | apply Kd.V_drewN | apply Kd.V_drew)); exact Kd.V_mono (Kd.V_far (p := ⟨gr, 2, none⟩) (Kd.V_far (p := ⟨gr, 1, none⟩) (Kd.V_far (p := ⟨gr, 0, none⟩) HW2.out (fun _ hk => hk.2) (.int .i64 y.f0)) (fun _ hk => hk.2) (.slice A1 y.f1.length c1)) (fun _ hk => hk.2) (.slice A2 y.f2.length c2)) (fun _ hk => .inl hk.1), bl⟩
def data_Tags.f (l0_0 : List (S39)) (l0_1 : List (S45)) (l0_2 : List (S51)) (a1_0 : Int) (a1_1 : Int) : Option ((List (S70))) := if a1_0 = 1 then ((data_Node.f l0_0 l0_1 l0_2 a1_1).bind fun bt189 => (some bt189.2.2.2.1)) else (if a1_0 = 2 then ((data_Way.f l0_0 l0_1 l0_2 a1_1).bind fun bt197 => (some bt197.2.2.1)) else (if a1_0 = 3 then ((data_Rel.f l0_0 l0_1 l0_2 a1_1).bind fun bt206 => (some bt206.2.2.1)) else (some ([] : List (S70)))))
set_option maxHeartbeats 8000000 in
set_option maxRecDepth 100000 in
theorem data_Tags.calls (P0_0_ : Nat → Prop) (A0_0 : Option Addr) (c0_0 : Nat) (l0_0 : List (S39)) (P0_1_ : Nat → Prop) (A0_1 : Option Addr) (c0_1 : Nat) (l0_1 : List (S45)) (P0_2_ : Nat → Prop) (A0_2 : Option Addr) (c0_2 : Nat) (l0_2 : List (S51)) (a1_0 : Int) (a1_1 : Int) (r : List (S70)) (w : World) (hs0_0 : Kd.V k39 39 w w.heap.size (fun k_ => P0_0_ k_) (.slice A0_0 l0_0.length c0_0) l0_0) (hs0_1 : Kd.V k45 45 w w.heap.size (fun k_ => P0_1_ k_) (.slice A0_1 l0_1.length c0_1) l0_1) (hs0_2 : Kd.V k51 51 w w.heap.size (fun k_ => P0_2_ k_) (.slice A0_2 l0_2.length c0_2) l0_2) (h : data_Tags.f l0_0 l0_1 l0_2 a1_0 a1_1 = some r) :
  Calls Try.prog 29 #[.agg #[.slice A0_0 l0_0.length c0_0, .slice A0_1 l0_1.length c0_1, .slice A0_2 l0_2.length c0_2], .agg #[.int .i64 a1_0, .int .i64 a1_1]] w fun e w' => ∃ v0_ : Value, e = .returned (v0_) ∧ Kd.V k70 70 w' w.heap.size (fun k_ => ((P0_0_ k_ ∨ P0_1_ k_ ∨ P0_2_ k_) ∨ w.heap.size ≤ k_)) v0_ r ∧ Below w.heap.size w w' := by
 have hu26 := Try.underlying26
 have hu34 := Try.underlying34
 have hu39 := Try.underlying39
 have hu45 := Try.underlying45
 have hu51 := Try.underlying51
 have HO0_0 := aM (show Kd.V k39 39 w w.heap.size (fun k_ => ((P0_0_ k_ ∨ P0_1_ k_ ∨ P0_2_ k_) ∨ w.heap.size ≤ k_)) (.slice A0_0 l0_0.length c0_0) l0_0 from Kd.V_mono hs0_0 (fun k_ hk => .inl (.inl hk)))
 have HO0_1 := aM (show Kd.V k45 45 w w.heap.size (fun k_ => ((P0_0_ k_ ∨ P0_1_ k_ ∨ P0_2_ k_) ∨ w.heap.size ≤ k_)) (.slice A0_1 l0_1.length c0_1) l0_1 from Kd.V_mono hs0_1 (fun k_ hk => .inl (.inr (.inl hk))))
 have HO0_2 := aM (show Kd.V k51 51 w w.heap.size (fun k_ => ((P0_0_ k_ ∨ P0_1_ k_ ∨ P0_2_ k_) ∨ w.heap.size ≤ k_)) (.slice A0_2 l0_2.length c0_2) l0_2 from Kd.V_mono hs0_2 (fun k_ hk => .inl (.inr (.inr hk))))
 have HB := aM (Below.refl w.heap.size w)
 have H : (if a1_0 = 1 then ((data_Node.f l0_0 l0_1 l0_2 a1_1).bind fun bt189 => (some bt189.2.2.2.1)) else (if a1_0 = 2 then ((data_Way.f l0_0 l0_1 l0_2 a1_1).bind fun bt197 => (some bt197.2.2.1)) else (if a1_0 = 3 then ((data_Rel.f l0_0 l0_1 l0_2 a1_1).bind fun bt206 => (some bt206.2.2.1)) else (some ([] : List (S70)))))) = some r := h
 clear h
 by_cases c3 : a1_0 = 1
 ·rw [if_pos c3] at H
  have c3b0 : (a1_0 == 1) = true := beq_iff_eq.mpr c3
  have c3b1 : (a1_0 != 1) = false := bne_eq_false_iff_eq.mpr c3
  clear c3
  replace H := Option.bind_eq_some_iff.mp H
  obtain ⟨⟨t189, t190, t191, t192, t195⟩, A40, H⟩ := H
  replace H : (some t192) = some r := H
  have A4 := aM A40
  clear A40
  obtain rfl := Option.some.inj H
  go_enter Try.func29, Try.ntmps29
  go_wp2_with (first | ((with_reducible refine gate_dst (N := 2) rfl ?_); refine bx (N := 2) (cs := #[.slice A0_0 l0_0.length c0_0, .slice A0_1 l0_1.length c0_1, .slice A0_2 l0_2.length c0_2]) (t := 26) ?_; intro gb187 hg w5 hbox hb; have n0_ := aM (Kd.V_below (Kd.V_elderB (by (with_reducible repeat (first | apply Kd.V_alloc | apply Kd.V_drewN | apply Kd.V_drew)); exact HO0_0.out) gb187 (Nat.le_of_eq hg.symm)) hb); have n1_ := aM (Kd.V_below (Kd.V_elderB (by (with_reducible repeat (first | apply Kd.V_alloc | apply Kd.V_drewN | apply Kd.V_drew)); exact HO0_1.out) gb187 (Nat.le_of_eq hg.symm)) hb); have n2_ := aM (Kd.V_below (Kd.V_elderB (by (with_reducible repeat (first | apply Kd.V_alloc | apply Kd.V_drewN | apply Kd.V_drew)); exact HO0_2.out) gb187 (Nat.le_of_eq hg.symm)) hb); have n3_ := aM (bS (bl) hb); have n4_ := aM (hbox); have n6_ := aM (gw (w := w) hg); (try clear HO0_0); (try clear HO0_1); (try clear HO0_2); (try clear HB); have HO0_0 := n0_; have HO0_1 := n1_; have HO0_2 := n2_; have HB := n3_; have BK187 := n4_; have GE187 := n6_; clear n0_ n1_ n2_ n3_ n4_ n6_ hb hbox hg) | ((with_reducible refine gate_dst (N := 3) rfl ?_); refine bx (N := 3) (cs := #[.int .i64 a1_0, .int .i64 a1_1]) (t := 34) ?_; intro gb188 hg w6 hbox hb; have n0_ := aM (Kd.V_below (Kd.V_elderB (by (with_reducible repeat (first | apply Kd.V_alloc | apply Kd.V_drewN | apply Kd.V_drew)); exact HO0_0.out) gb188 (Nat.le_of_eq hg.symm)) hb); have n1_ := aM (Kd.V_below (Kd.V_elderB (by (with_reducible repeat (first | apply Kd.V_alloc | apply Kd.V_drewN | apply Kd.V_drew)); exact HO0_1.out) gb188 (Nat.le_of_eq hg.symm)) hb); have n2_ := aM (Kd.V_below (Kd.V_elderB (by (with_reducible repeat (first | apply Kd.V_alloc | apply Kd.V_drewN | apply Kd.V_drew)); exact HO0_2.out) gb188 (Nat.le_of_eq hg.symm)) hb); have n3_ := aM (kB (kl BK187) hb); have n4_ := aM (bS (bl) hb); have n5_ := aM (hbox); have n7_ := aM (gw (w := w) hg); have n8_ := aM (nb BK187 hg); have n9_ := aM (nb BK187 hg).symm; (try clear HO0_0); (try clear HO0_1); (try clear HO0_2); (try clear BK187); (try clear HB); have HO0_0 := n0_; have HO0_1 := n1_; have HO0_2 := n2_; have BK187 := n3_; have HB := n4_; have BK188 := n5_; have GE188 := n7_; have NB187_188 := n8_; have NB188_187 := n9_; clear n0_ n1_ n2_ n3_ n4_ n5_ n7_ n8_ n9_ hb hbox hg; have hnb7 := NB188_187.out; have hnc7 := NB187_188.out; obtain ⟨hcz8_0, hcz8_1, hfz8_0, hfz8_1⟩ := bc2 BK188; obtain ⟨hcz9_0, hcz9_1, hcz9_2, hfz9_0, hfz9_1, hfz9_2⟩ := bc3 BK187) | ((with_reducible refine gate_callee (f := 12) rfl ?_); refine gL (some 19) Try.func12 #[.agg #[.slice A0_0 l0_0.length c0_0, .slice A0_1 l0_1.length c0_1, .slice A0_2 l0_2.length c0_2], .int .i64 a1_1] ?_; (with_reducible refine (data_Node.calls (fun k_ => ((((P0_0_ k_ ∨ P0_1_ k_ ∨ P0_2_ k_) ∨ w.heap.size ≤ k_) ∧ k_ ≠ gb187) ∧ k_ ≠ gb188)) _ _ l0_0 _ _ l0_1 _ _ l0_2 a1_1 t189 t190 t191 t192 t195 _ ?side1 ?side2 ?side3 ?side4 ?side5 A4.out).mono ?_); (case side1 => exact HO0_0.out); (case side2 => repeat (first | exact (Kd.V_reads' HO0_1.out).2.2 | (with_reducible refine cA ?_ _) | (with_reducible refine cN ?_ _) | (with_reducible refine cD ?_))); (case side3 => exact (Kd.V_reads' HO0_1.out).2.1); (case side4 => repeat (first | exact (Kd.V_reads' HO0_2.out).2.2 | (with_reducible refine cA ?_ _) | (with_reducible refine cN ?_ _) | (with_reducible refine cD ?_))); (case side5 => exact (Kd.V_reads' HO0_2.out).2.1); rintro e w10 ⟨v193, rfl, ho0, hb⟩; refine ⟨_, rfl, ?_⟩; have HO194 := aM (Kd.V_lower (Kd.V_mono (ok' := fun k_ => ((P0_0_ k_ ∨ P0_1_ k_ ∨ P0_2_ k_) ∨ w.heap.size ≤ k_) ∧ k_ ≠ gb187 ∧ k_ ≠ gb188) ho0 (fun k_ hk_ => ⟨Or.elim hk_ (fun hs_ => hs_.1.1) (fun hn_ => (.inr (Nat.le_trans (below_size (bl)) hn_))), Or.elim hk_ (fun hs_ => hs_.1.2) (fun hn_ => (Kd.freshB (kl BK187) k_ hn_)), Or.elim hk_ (fun hs_ => hs_.2) (fun hn_ => (Kd.freshB (kl BK188) k_ hn_))⟩)) (below_size (bl))); replace HO0_0 := aM (Kd.V_below (by (with_reducible repeat (first | apply Kd.V_alloc | apply Kd.V_drewN | apply Kd.V_drew)); exact HO0_0.out) hb); replace HO0_1 := aM (Kd.V_below (by (with_reducible repeat (first | apply Kd.V_alloc | apply Kd.V_drewN | apply Kd.V_drew)); exact HO0_1.out) hb); replace HO0_2 := aM (Kd.V_below (by (with_reducible repeat (first | apply Kd.V_alloc | apply Kd.V_drewN | apply Kd.V_drew)); exact HO0_2.out) hb); replace BK187 := aM (kB (kl BK187) hb); replace BK188 := aM (kB (kl BK188) hb); replace HB := aM (bS (bl) hb); (try clear hb); (try clear ho0)) | ((with_reducible refine gate_dst (N := 5) rfl ?_); refine bx (N := 5) (cs := #[.int .i64 0, .int .i64 0, .int .i64 0, .slice none 0 0]) (t := 39) ?_; intro gb196 hg w11 hbox hb; have n0_ := aM (Kd.V_below (Kd.V_elderB (by (with_reducible repeat (first | apply Kd.V_alloc | apply Kd.V_drewN | apply Kd.V_drew)); exact HO0_0.out) gb196 (Nat.le_of_eq hg.symm)) hb); have n1_ := aM (Kd.V_below (Kd.V_elderB (by (with_reducible repeat (first | apply Kd.V_alloc | apply Kd.V_drewN | apply Kd.V_drew)); exact HO0_1.out) gb196 (Nat.le_of_eq hg.symm)) hb); have n2_ := aM (Kd.V_below (Kd.V_elderB (by (with_reducible repeat (first | apply Kd.V_alloc | apply Kd.V_drewN | apply Kd.V_drew)); exact HO0_2.out) gb196 (Nat.le_of_eq hg.symm)) hb); have n3_ := aM (Kd.V_below (Kd.V_elderB (by (with_reducible repeat (first | apply Kd.V_alloc | apply Kd.V_drewN | apply Kd.V_drew)); exact HO194.out) gb196 (Nat.le_of_eq hg.symm)) hb); have n4_ := aM (kB (kl BK187) hb); have n5_ := aM (kB (kl BK188) hb); have n6_ := aM (bS (bl) hb); have n7_ := aM (hbox); have n9_ := aM (gw (w := w) hg); have n10_ := aM (nb BK187 hg); have n11_ := aM (nb BK187 hg).symm; have n12_ := aM (nb BK188 hg); have n13_ := aM (nb BK188 hg).symm; (try clear HO0_0); (try clear HO0_1); (try clear HO0_2); (try clear HO194); (try clear BK187); (try clear BK188); (try clear HB); have HO0_0 := n0_; have HO0_1 := n1_; have HO0_2 := n2_; have HO194 := n3_; have BK187 := n4_; have BK188 := n5_; have HB := n6_; have BK196 := n7_; have GE196 := n9_; have NB187_196 := n10_; have NB196_187 := n11_; have NB188_196 := n12_; have NB196_188 := n13_; clear n0_ n1_ n2_ n3_ n4_ n5_ n6_ n7_ n9_ n10_ n11_ n12_ n13_ hb hbox hg; have hnb12 := NB196_187.out; have hnc12 := NB187_196.out; have hnb13 := NB196_188.out; have hnc13 := NB188_196.out; obtain ⟨hcz14_0, hcz14_1, hcz14_2, hcz14_3, hfz14_0, hfz14_1, hfz14_2, hfz14_3⟩ := bc4 BK196; obtain ⟨Ao15, co15, eo15⟩ := Kd.V_slice HO194.out; subst eo15))
  go_ret
  exact ⟨_, by first | rfl | (simp [errW_none, errW_some] <;> rfl) | (simp [*, errW_none, errW_some] <;> rfl), by (with_reducible repeat (first | apply Kd.V_alloc | apply Kd.V_drewN | apply Kd.V_drew)); exact Kd.V_mono (Kd.V_far (p := ⟨gb196, 3, none⟩) (Kd.V_far (p := ⟨gb196, 2, none⟩) (Kd.V_far (p := ⟨gb196, 1, none⟩) (Kd.V_far (p := ⟨gb196, 0, none⟩) (Kd.V_mono HO194.out (fun k_ hk => (⟨hk, hk.2⟩ : _ ∧ k_ ≠ gb196))) (fun _ hk => hk.2) (.int .i64 t189)) (fun _ hk => hk.2) (.int .i64 t190)) (fun _ hk => hk.2) (.int .i64 t191)) (fun _ hk => hk.2) (.slice Ao15 t192.length co15)) (fun _ hk => hk.1.1.1), bl⟩
 ·rw [if_neg c3] at H
  have c3b0 : (a1_0 == 1) = false := beq_eq_false_iff_ne.mpr c3
  have c3b1 : (a1_0 != 1) = true := bne_iff_ne.mpr c3
  by_cases c16 : a1_0 = 2
  ·rw [if_pos c16] at H
   have c16b0 : (a1_0 == 2) = true := beq_iff_eq.mpr c16
   have c16b1 : (a1_0 != 2) = false := bne_eq_false_iff_eq.mpr c16
   clear c16
   replace H := Option.bind_eq_some_iff.mp H
   obtain ⟨⟨t197, t198, t201, t204⟩, A170, H⟩ := H
   replace H : (some t201) = some r := H
   have A17 := aM A170
   clear A170
   obtain rfl := Option.some.inj H
   go_enter Try.func29, Try.ntmps29
   go_wp2_with (first | ((with_reducible refine gate_dst (N := 2) rfl ?_); refine bx (N := 2) (cs := #[.slice A0_0 l0_0.length c0_0, .slice A0_1 l0_1.length c0_1, .slice A0_2 l0_2.length c0_2]) (t := 26) ?_; intro gb187 hg w18 hbox hb; have n0_ := aM (Kd.V_below (Kd.V_elderB (by (with_reducible repeat (first | apply Kd.V_alloc | apply Kd.V_drewN | apply Kd.V_drew)); exact HO0_0.out) gb187 (Nat.le_of_eq hg.symm)) hb); have n1_ := aM (Kd.V_below (Kd.V_elderB (by (with_reducible repeat (first | apply Kd.V_alloc | apply Kd.V_drewN | apply Kd.V_drew)); exact HO0_1.out) gb187 (Nat.le_of_eq hg.symm)) hb); have n2_ := aM (Kd.V_below (Kd.V_elderB (by (with_reducible repeat (first | apply Kd.V_alloc | apply Kd.V_drewN | apply Kd.V_drew)); exact HO0_2.out) gb187 (Nat.le_of_eq hg.symm)) hb); have n3_ := aM (bS (bl) hb); have n4_ := aM (hbox); have n6_ := aM (gw (w := w) hg); (try clear HO0_0); (try clear HO0_1); (try clear HO0_2); (try clear HB); have HO0_0 := n0_; have HO0_1 := n1_; have HO0_2 := n2_; have HB := n3_; have BK187 := n4_; have GE187 := n6_; clear n0_ n1_ n2_ n3_ n4_ n6_ hb hbox hg) | ((with_reducible refine gate_dst (N := 3) rfl ?_); refine bx (N := 3) (cs := #[.int .i64 a1_0, .int .i64 a1_1]) (t := 34) ?_; intro gb188 hg w19 hbox hb; have n0_ := aM (Kd.V_below (Kd.V_elderB (by (with_reducible repeat (first | apply Kd.V_alloc | apply Kd.V_drewN | apply Kd.V_drew)); exact HO0_0.out) gb188 (Nat.le_of_eq hg.symm)) hb); have n1_ := aM (Kd.V_below (Kd.V_elderB (by (with_reducible repeat (first | apply Kd.V_alloc | apply Kd.V_drewN | apply Kd.V_drew)); exact HO0_1.out) gb188 (Nat.le_of_eq hg.symm)) hb); have n2_ := aM (Kd.V_below (Kd.V_elderB (by (with_reducible repeat (first | apply Kd.V_alloc | apply Kd.V_drewN | apply Kd.V_drew)); exact HO0_2.out) gb188 (Nat.le_of_eq hg.symm)) hb); have n3_ := aM (kB (kl BK187) hb); have n4_ := aM (bS (bl) hb); have n5_ := aM (hbox); have n7_ := aM (gw (w := w) hg); have n8_ := aM (nb BK187 hg); have n9_ := aM (nb BK187 hg).symm; (try clear HO0_0); (try clear HO0_1); (try clear HO0_2); (try clear BK187); (try clear HB); have HO0_0 := n0_; have HO0_1 := n1_; have HO0_2 := n2_; have BK187 := n3_; have HB := n4_; have BK188 := n5_; have GE188 := n7_; have NB187_188 := n8_; have NB188_187 := n9_; clear n0_ n1_ n2_ n3_ n4_ n5_ n7_ n8_ n9_ hb hbox hg; have hnb20 := NB188_187.out; have hnc20 := NB187_188.out; obtain ⟨hcz21_0, hcz21_1, hfz21_0, hfz21_1⟩ := bc2 BK188; obtain ⟨hcz22_0, hcz22_1, hcz22_2, hfz22_0, hfz22_1, hfz22_2⟩ := bc3 BK187) | ((with_reducible refine gate_callee (f := 15) rfl ?_); refine gL (some 30) Try.func15 #[.agg #[.slice A0_0 l0_0.length c0_0, .slice A0_1 l0_1.length c0_1, .slice A0_2 l0_2.length c0_2], .int .i64 a1_1] ?_; (with_reducible refine (data_Way.calls _ _ l0_0 (fun k_ => ((((P0_0_ k_ ∨ P0_1_ k_ ∨ P0_2_ k_) ∨ w.heap.size ≤ k_) ∧ k_ ≠ gb187) ∧ k_ ≠ gb188)) _ _ l0_1 _ _ l0_2 a1_1 t197 t198 t201 t204 _ ?side1 ?side2 ?side3 ?side4 ?side5 A17.out).mono ?_); (case side1 => repeat (first | exact (Kd.V_reads' HO0_0.out).2.2 | (with_reducible refine cA ?_ _) | (with_reducible refine cN ?_ _) | (with_reducible refine cD ?_))); (case side2 => exact (Kd.V_reads' HO0_0.out).2.1); (case side3 => exact HO0_1.out); (case side4 => repeat (first | exact (Kd.V_reads' HO0_2.out).2.2 | (with_reducible refine cA ?_ _) | (with_reducible refine cN ?_ _) | (with_reducible refine cD ?_))); (case side5 => exact (Kd.V_reads' HO0_2.out).2.1); rintro e w23 ⟨v199, v202, rfl, ho0, ho1, hb⟩; refine ⟨_, rfl, ?_⟩; have HO200 := aM (Kd.V_lower (Kd.V_mono (ok' := fun k_ => ((P0_0_ k_ ∨ P0_1_ k_ ∨ P0_2_ k_) ∨ w.heap.size ≤ k_) ∧ k_ ≠ gb187 ∧ k_ ≠ gb188) ho0 (fun k_ hk_ => ⟨Or.elim hk_ (fun hs_ => hs_.1.1) (fun hn_ => (.inr (Nat.le_trans (below_size (bl)) hn_))), Or.elim hk_ (fun hs_ => hs_.1.2) (fun hn_ => (Kd.freshB (kl BK187) k_ hn_)), Or.elim hk_ (fun hs_ => hs_.2) (fun hn_ => (Kd.freshB (kl BK188) k_ hn_))⟩)) (below_size (bl))); have HO203 := aM (Kd.V_lower (Kd.V_mono (ok' := fun k_ => ((P0_0_ k_ ∨ P0_1_ k_ ∨ P0_2_ k_) ∨ w.heap.size ≤ k_) ∧ k_ ≠ gb187 ∧ k_ ≠ gb188) ho1 (fun k_ hk_ => ⟨Or.elim hk_ (fun hs_ => hs_.1.1) (fun hn_ => (.inr (Nat.le_trans (below_size (bl)) hn_))), Or.elim hk_ (fun hs_ => hs_.1.2) (fun hn_ => (Kd.freshB (kl BK187) k_ hn_)), Or.elim hk_ (fun hs_ => hs_.2) (fun hn_ => (Kd.freshB (kl BK188) k_ hn_))⟩)) (below_size (bl))); replace HO0_0 := aM (Kd.V_below (by (with_reducible repeat (first | apply Kd.V_alloc | apply Kd.V_drewN | apply Kd.V_drew)); exact HO0_0.out) hb); replace HO0_1 := aM (Kd.V_below (by (with_reducible repeat (first | apply Kd.V_alloc | apply Kd.V_drewN | apply Kd.V_drew)); exact HO0_1.out) hb); replace HO0_2 := aM (Kd.V_below (by (with_reducible repeat (first | apply Kd.V_alloc | apply Kd.V_drewN | apply Kd.V_drew)); exact HO0_2.out) hb); replace BK187 := aM (kB (kl BK187) hb); replace BK188 := aM (kB (kl BK188) hb); replace HB := aM (bS (bl) hb); (try clear hb); (try clear ho0); (try clear ho1)) | ((with_reducible refine gate_dst (N := 7) rfl ?_); refine bx (N := 7) (cs := #[.int .i64 0, .slice none 0 0, .slice none 0 0]) (t := 45) ?_; intro gb205 hg w24 hbox hb; have n0_ := aM (Kd.V_below (Kd.V_elderB (by (with_reducible repeat (first | apply Kd.V_alloc | apply Kd.V_drewN | apply Kd.V_drew)); exact HO0_0.out) gb205 (Nat.le_of_eq hg.symm)) hb); have n1_ := aM (Kd.V_below (Kd.V_elderB (by (with_reducible repeat (first | apply Kd.V_alloc | apply Kd.V_drewN | apply Kd.V_drew)); exact HO0_1.out) gb205 (Nat.le_of_eq hg.symm)) hb); have n2_ := aM (Kd.V_below (Kd.V_elderB (by (with_reducible repeat (first | apply Kd.V_alloc | apply Kd.V_drewN | apply Kd.V_drew)); exact HO0_2.out) gb205 (Nat.le_of_eq hg.symm)) hb); have n3_ := aM (Kd.V_below (Kd.V_elderB (by (with_reducible repeat (first | apply Kd.V_alloc | apply Kd.V_drewN | apply Kd.V_drew)); exact HO200.out) gb205 (Nat.le_of_eq hg.symm)) hb); have n4_ := aM (Kd.V_below (Kd.V_elderB (by (with_reducible repeat (first | apply Kd.V_alloc | apply Kd.V_drewN | apply Kd.V_drew)); exact HO203.out) gb205 (Nat.le_of_eq hg.symm)) hb); have n5_ := aM (kB (kl BK187) hb); have n6_ := aM (kB (kl BK188) hb); have n7_ := aM (bS (bl) hb); have n8_ := aM (hbox); have n10_ := aM (gw (w := w) hg); have n11_ := aM (nb BK187 hg); have n12_ := aM (nb BK187 hg).symm; have n13_ := aM (nb BK188 hg); have n14_ := aM (nb BK188 hg).symm; (try clear HO0_0); (try clear HO0_1); (try clear HO0_2); (try clear HO200); (try clear HO203); (try clear BK187); (try clear BK188); (try clear HB); have HO0_0 := n0_; have HO0_1 := n1_; have HO0_2 := n2_; have HO200 := n3_; have HO203 := n4_; have BK187 := n5_; have BK188 := n6_; have HB := n7_; have BK205 := n8_; have GE205 := n10_; have NB187_205 := n11_; have NB205_187 := n12_; have NB188_205 := n13_; have NB205_188 := n14_; clear n0_ n1_ n2_ n3_ n4_ n5_ n6_ n7_ n8_ n10_ n11_ n12_ n13_ n14_ hb hbox hg; have hnb25 := NB205_187.out; have hnc25 := NB187_205.out; have hnb26 := NB205_188.out; have hnc26 := NB188_205.out; obtain ⟨hcz27_0, hcz27_1, hcz27_2, hfz27_0, hfz27_1, hfz27_2⟩ := bc3 BK205; obtain ⟨Ao28, co28, eo28⟩ := Kd.V_slice HO200.out; subst eo28; obtain ⟨Ao29, co29, eo29⟩ := Kd.V_slice HO203.out; subst eo29))
   go_ret
   exact ⟨_, by first | rfl | (simp [errW_none, errW_some] <;> rfl) | (simp [*, errW_none, errW_some] <;> rfl), by (with_reducible repeat (first | apply Kd.V_alloc | apply Kd.V_drewN | apply Kd.V_drew)); exact Kd.V_mono (Kd.V_far (p := ⟨gb205, 2, none⟩) (Kd.V_far (p := ⟨gb205, 1, none⟩) (Kd.V_far (p := ⟨gb205, 0, none⟩) (Kd.V_mono HO203.out (fun k_ hk => (⟨hk, hk.2⟩ : _ ∧ k_ ≠ gb205))) (fun _ hk => hk.2) (.int .i64 t197)) (fun _ hk => hk.2) (.slice Ao28 t198.length co28)) (fun _ hk => hk.2) (.slice Ao29 t201.length co29)) (fun _ hk => hk.1.1.1), bl⟩
  ·rw [if_neg c16] at H
   have c16b0 : (a1_0 == 2) = false := beq_eq_false_iff_ne.mpr c16
   have c16b1 : (a1_0 != 2) = true := bne_iff_ne.mpr c16
   by_cases c30 : a1_0 = 3
   ·rw [if_pos c30] at H
    have c30b0 : (a1_0 == 3) = true := beq_iff_eq.mpr c30
    have c30b1 : (a1_0 != 3) = false := bne_eq_false_iff_eq.mpr c30
    clear c30
    replace H := Option.bind_eq_some_iff.mp H
    obtain ⟨⟨t206, t207, t210, t213⟩, A310, H⟩ := H
    replace H : (some t210) = some r := H
    have A31 := aM A310
    clear A310
    obtain rfl := Option.some.inj H
    go_enter Try.func29, Try.ntmps29
    go_wp2_with (first | ((with_reducible refine gate_dst (N := 2) rfl ?_); refine bx (N := 2) (cs := #[.slice A0_0 l0_0.length c0_0, .slice A0_1 l0_1.length c0_1, .slice A0_2 l0_2.length c0_2]) (t := 26) ?_; intro gb187 hg w32 hbox hb; have n0_ := aM (Kd.V_below (Kd.V_elderB (by (with_reducible repeat (first | apply Kd.V_alloc | apply Kd.V_drewN | apply Kd.V_drew)); exact HO0_0.out) gb187 (Nat.le_of_eq hg.symm)) hb); have n1_ := aM (Kd.V_below (Kd.V_elderB (by (with_reducible repeat (first | apply Kd.V_alloc | apply Kd.V_drewN | apply Kd.V_drew)); exact HO0_1.out) gb187 (Nat.le_of_eq hg.symm)) hb); have n2_ := aM (Kd.V_below (Kd.V_elderB (by (with_reducible repeat (first | apply Kd.V_alloc | apply Kd.V_drewN | apply Kd.V_drew)); exact HO0_2.out) gb187 (Nat.le_of_eq hg.symm)) hb); have n3_ := aM (bS (bl) hb); have n4_ := aM (hbox); have n6_ := aM (gw (w := w) hg); (try clear HO0_0); (try clear HO0_1); (try clear HO0_2); (try clear HB); have HO0_0 := n0_; have HO0_1 := n1_; have HO0_2 := n2_; have HB := n3_; have BK187 := n4_; have GE187 := n6_; clear n0_ n1_ n2_ n3_ n4_ n6_ hb hbox hg) | ((with_reducible refine gate_dst (N := 3) rfl ?_); refine bx (N := 3) (cs := #[.int .i64 a1_0, .int .i64 a1_1]) (t := 34) ?_; intro gb188 hg w33 hbox hb; have n0_ := aM (Kd.V_below (Kd.V_elderB (by (with_reducible repeat (first | apply Kd.V_alloc | apply Kd.V_drewN | apply Kd.V_drew)); exact HO0_0.out) gb188 (Nat.le_of_eq hg.symm)) hb); have n1_ := aM (Kd.V_below (Kd.V_elderB (by (with_reducible repeat (first | apply Kd.V_alloc | apply Kd.V_drewN | apply Kd.V_drew)); exact HO0_1.out) gb188 (Nat.le_of_eq hg.symm)) hb); have n2_ := aM (Kd.V_below (Kd.V_elderB (by (with_reducible repeat (first | apply Kd.V_alloc | apply Kd.V_drewN | apply Kd.V_drew)); exact HO0_2.out) gb188 (Nat.le_of_eq hg.symm)) hb); have n3_ := aM (kB (kl BK187) hb); have n4_ := aM (bS (bl) hb); have n5_ := aM (hbox); have n7_ := aM (gw (w := w) hg); have n8_ := aM (nb BK187 hg); have n9_ := aM (nb BK187 hg).symm; (try clear HO0_0); (try clear HO0_1); (try clear HO0_2); (try clear BK187); (try clear HB); have HO0_0 := n0_; have HO0_1 := n1_; have HO0_2 := n2_; have BK187 := n3_; have HB := n4_; have BK188 := n5_; have GE188 := n7_; have NB187_188 := n8_; have NB188_187 := n9_; clear n0_ n1_ n2_ n3_ n4_ n5_ n7_ n8_ n9_ hb hbox hg; have hnb34 := NB188_187.out; have hnc34 := NB187_188.out; obtain ⟨hcz35_0, hcz35_1, hfz35_0, hfz35_1⟩ := bc2 BK188; obtain ⟨hcz36_0, hcz36_1, hcz36_2, hfz36_0, hfz36_1, hfz36_2⟩ := bc3 BK187) | ((with_reducible refine gate_callee (f := 18) rfl ?_); refine gL (some 41) Try.func18 #[.agg #[.slice A0_0 l0_0.length c0_0, .slice A0_1 l0_1.length c0_1, .slice A0_2 l0_2.length c0_2], .int .i64 a1_1] ?_; (with_reducible refine (data_Rel.calls _ _ l0_0 _ _ l0_1 (fun k_ => ((((P0_0_ k_ ∨ P0_1_ k_ ∨ P0_2_ k_) ∨ w.heap.size ≤ k_) ∧ k_ ≠ gb187) ∧ k_ ≠ gb188)) _ _ l0_2 a1_1 t206 t207 t210 t213 _ ?side1 ?side2 ?side3 ?side4 ?side5 A31.out).mono ?_); (case side1 => repeat (first | exact (Kd.V_reads' HO0_0.out).2.2 | (with_reducible refine cA ?_ _) | (with_reducible refine cN ?_ _) | (with_reducible refine cD ?_))); (case side2 => exact (Kd.V_reads' HO0_0.out).2.1); (case side3 => repeat (first | exact (Kd.V_reads' HO0_1.out).2.2 | (with_reducible refine cA ?_ _) | (with_reducible refine cN ?_ _) | (with_reducible refine cD ?_))); (case side4 => exact (Kd.V_reads' HO0_1.out).2.1); (case side5 => exact HO0_2.out); rintro e w37 ⟨v208, v211, rfl, ho0, ho1, hb⟩; refine ⟨_, rfl, ?_⟩; have HO209 := aM (Kd.V_lower (Kd.V_mono (ok' := fun k_ => ((P0_0_ k_ ∨ P0_1_ k_ ∨ P0_2_ k_) ∨ w.heap.size ≤ k_) ∧ k_ ≠ gb187 ∧ k_ ≠ gb188) ho0 (fun k_ hk_ => ⟨Or.elim hk_ (fun hs_ => hs_.1.1) (fun hn_ => (.inr (Nat.le_trans (below_size (bl)) hn_))), Or.elim hk_ (fun hs_ => hs_.1.2) (fun hn_ => (Kd.freshB (kl BK187) k_ hn_)), Or.elim hk_ (fun hs_ => hs_.2) (fun hn_ => (Kd.freshB (kl BK188) k_ hn_))⟩)) (below_size (bl))); have HO212 := aM (Kd.V_lower (Kd.V_mono (ok' := fun k_ => ((P0_0_ k_ ∨ P0_1_ k_ ∨ P0_2_ k_) ∨ w.heap.size ≤ k_) ∧ k_ ≠ gb187 ∧ k_ ≠ gb188) ho1 (fun k_ hk_ => ⟨Or.elim hk_ (fun hs_ => hs_.1.1) (fun hn_ => (.inr (Nat.le_trans (below_size (bl)) hn_))), Or.elim hk_ (fun hs_ => hs_.1.2) (fun hn_ => (Kd.freshB (kl BK187) k_ hn_)), Or.elim hk_ (fun hs_ => hs_.2) (fun hn_ => (Kd.freshB (kl BK188) k_ hn_))⟩)) (below_size (bl))); replace HO0_0 := aM (Kd.V_below (by (with_reducible repeat (first | apply Kd.V_alloc | apply Kd.V_drewN | apply Kd.V_drew)); exact HO0_0.out) hb); replace HO0_1 := aM (Kd.V_below (by (with_reducible repeat (first | apply Kd.V_alloc | apply Kd.V_drewN | apply Kd.V_drew)); exact HO0_1.out) hb); replace HO0_2 := aM (Kd.V_below (by (with_reducible repeat (first | apply Kd.V_alloc | apply Kd.V_drewN | apply Kd.V_drew)); exact HO0_2.out) hb); replace BK187 := aM (kB (kl BK187) hb); replace BK188 := aM (kB (kl BK188) hb); replace HB := aM (bS (bl) hb); (try clear hb); (try clear ho0); (try clear ho1)) | ((with_reducible refine gate_dst (N := 9) rfl ?_); refine bx (N := 9) (cs := #[.int .i64 0, .slice none 0 0, .slice none 0 0]) (t := 51) ?_; intro gb214 hg w38 hbox hb; have n0_ := aM (Kd.V_below (Kd.V_elderB (by (with_reducible repeat (first | apply Kd.V_alloc | apply Kd.V_drewN | apply Kd.V_drew)); exact HO0_0.out) gb214 (Nat.le_of_eq hg.symm)) hb); have n1_ := aM (Kd.V_below (Kd.V_elderB (by (with_reducible repeat (first | apply Kd.V_alloc | apply Kd.V_drewN | apply Kd.V_drew)); exact HO0_1.out) gb214 (Nat.le_of_eq hg.symm)) hb); have n2_ := aM (Kd.V_below (Kd.V_elderB (by (with_reducible repeat (first | apply Kd.V_alloc | apply Kd.V_drewN | apply Kd.V_drew)); exact HO0_2.out) gb214 (Nat.le_of_eq hg.symm)) hb); have n3_ := aM (Kd.V_below (Kd.V_elderB (by (with_reducible repeat (first | apply Kd.V_alloc | apply Kd.V_drewN | apply Kd.V_drew)); exact HO209.out) gb214 (Nat.le_of_eq hg.symm)) hb); have n4_ := aM (Kd.V_below (Kd.V_elderB (by (with_reducible repeat (first | apply Kd.V_alloc | apply Kd.V_drewN | apply Kd.V_drew)); exact HO212.out) gb214 (Nat.le_of_eq hg.symm)) hb); have n5_ := aM (kB (kl BK187) hb); have n6_ := aM (kB (kl BK188) hb); have n7_ := aM (bS (bl) hb); have n8_ := aM (hbox); have n10_ := aM (gw (w := w) hg); have n11_ := aM (nb BK187 hg); have n12_ := aM (nb BK187 hg).symm; have n13_ := aM (nb BK188 hg); have n14_ := aM (nb BK188 hg).symm; (try clear HO0_0); (try clear HO0_1); (try clear HO0_2); (try clear HO209); (try clear HO212); (try clear BK187); (try clear BK188); (try clear HB); have HO0_0 := n0_; have HO0_1 := n1_; have HO0_2 := n2_; have HO209 := n3_; have HO212 := n4_; have BK187 := n5_; have BK188 := n6_; have HB := n7_; have BK214 := n8_; have GE214 := n10_; have NB187_214 := n11_; have NB214_187 := n12_; have NB188_214 := n13_; have NB214_188 := n14_; clear n0_ n1_ n2_ n3_ n4_ n5_ n6_ n7_ n8_ n10_ n11_ n12_ n13_ n14_ hb hbox hg; have hnb39 := NB214_187.out; have hnc39 := NB187_214.out; have hnb40 := NB214_188.out; have hnc40 := NB188_214.out; obtain ⟨hcz41_0, hcz41_1, hcz41_2, hfz41_0, hfz41_1, hfz41_2⟩ := bc3 BK214; obtain ⟨Ao42, co42, eo42⟩ := Kd.V_slice HO209.out; subst eo42; obtain ⟨Ao43, co43, eo43⟩ := Kd.V_slice HO212.out; subst eo43))
    go_ret
    exact ⟨_, by first | rfl | (simp [errW_none, errW_some] <;> rfl) | (simp [*, errW_none, errW_some] <;> rfl), by (with_reducible repeat (first | apply Kd.V_alloc | apply Kd.V_drewN | apply Kd.V_drew)); exact Kd.V_mono (Kd.V_far (p := ⟨gb214, 2, none⟩) (Kd.V_far (p := ⟨gb214, 1, none⟩) (Kd.V_far (p := ⟨gb214, 0, none⟩) (Kd.V_mono HO212.out (fun k_ hk => (⟨hk, hk.2⟩ : _ ∧ k_ ≠ gb214))) (fun _ hk => hk.2) (.int .i64 t206)) (fun _ hk => hk.2) (.slice Ao42 t207.length co42)) (fun _ hk => hk.2) (.slice Ao43 t210.length co43)) (fun _ hk => hk.1.1.1), bl⟩
   ·rw [if_neg c30] at H
    have c30b0 : (a1_0 == 3) = false := beq_eq_false_iff_ne.mpr c30
    have c30b1 : (a1_0 != 3) = true := bne_iff_ne.mpr c30
    obtain rfl := Option.some.inj H
    go_enter Try.func29, Try.ntmps29
    go_wp2_with (first | ((with_reducible refine gate_dst (N := 2) rfl ?_); refine bx (N := 2) (cs := #[.slice A0_0 l0_0.length c0_0, .slice A0_1 l0_1.length c0_1, .slice A0_2 l0_2.length c0_2]) (t := 26) ?_; intro gb187 hg w44 hbox hb; have n3_ := aM (bS (bl) hb); have n4_ := aM (hbox); have n6_ := aM (gw (w := w) hg); (try clear HO0_0); (try clear HO0_1); (try clear HO0_2); (try clear HB); have HB := n3_; have BK187 := n4_; have GE187 := n6_; clear n3_ n4_ n6_ hb hbox hg) | ((with_reducible refine gate_dst (N := 3) rfl ?_); refine bx (N := 3) (cs := #[.int .i64 a1_0, .int .i64 a1_1]) (t := 34) ?_; intro gb188 hg w45 hbox hb; have n4_ := aM (bS (bl) hb); have n5_ := aM (hbox); have n7_ := aM (gw (w := w) hg); have n8_ := aM (nb BK187 hg); have n9_ := aM (nb BK187 hg).symm; (try clear BK187); (try clear HB); have HB := n4_; have BK188 := n5_; have GE188 := n7_; have NB187_188 := n8_; have NB188_187 := n9_; clear n4_ n5_ n7_ n8_ n9_ hb hbox hg; have hnb46 := NB188_187.out; have hnc46 := NB187_188.out; obtain ⟨hcz47_0, hcz47_1, hfz47_0, hfz47_1⟩ := bc2 BK188))
    go_ret
    exact ⟨_, by first | rfl | (simp [errW_none, errW_some] <;> rfl) | (simp [*, errW_none, errW_some] <;> rfl), Kd.V_nil _ _ _ _ _, bl⟩
def api_Tag.l0 : Nat → List (S70) → List (S70) → Int → Int → Option (Bool)
 | 0, _, _, _, _ => none
 | k + 1, x0, x1, x12, x13 => if x13 < x12 then (if 0 ≤ x13 then (if x13 < (x0.length : Int) then (if x13 < (x1.length : Int) then (if (!((((rd_T70 x0 x13).f0).toList) == (((rd_T70 x1 x13).f0).toList)) || (!((((rd_T70 x0 x13).f1).toList) == (((rd_T70 x1 x13).f1).toList)))) = true then (some false) else (api_Tag.l0 k x0 x1 x12 (wrap64 (x13 + 1)))) else (none)) else (none)) else (none)) else (some true)
def api_Tag.f (k : Nat) (l0 : List (S70)) (l1 : List (S70)) : Option (Bool) := if (l0.length : Int) = (l1.length : Int) then (api_Tag.l0 k l0 l1 (l0.length : Int) 0) else (some false)
theorem api_Tag.mono_l : ∀ k, (∀ y0 y1 y2 y3, LeO (api_Tag.l0 k y0 y1 y2 y3) (api_Tag.l0 (k + 1) y0 y1 y2 y3))
 | 0 => fun _ _ _ _ r h => by simp [api_Tag.l0] at h
 | k + 1 => by
  have ih0 := api_Tag.mono_l k
  ·intro y0 y1 y2 y3
   unfold api_Tag.l0
   repeat' first
   | (with_reducible exact ih0 _ _ _ _)
   | (with_reducible exact LeO.refl _)
   | (with_reducible exact LeO.none _)
   | (with_reducible refine LeO.ite ?_ ?_)
   | (with_reducible refine LeO.bind ?_ (fun _ => ?_))
   | exact ih0 _ _ _ _
   | exact LeO.none _
   | refine LeO.ite ?_ ?_
   | refine LeO.bind ?_ (fun _ => ?_)
theorem api_Tag.mono : ∀ a0 a1 k, LeO (api_Tag.f k a0 a1) (api_Tag.f (k + 1) a0 a1) := by
 intro a0 a1 k
 have ih0 := api_Tag.mono_l k
 unfold api_Tag.f
 repeat' first
   | (with_reducible exact ih0 _ _ _ _)
   | (with_reducible exact LeO.refl _)
   | (with_reducible exact LeO.none _)
   | (with_reducible refine LeO.ite ?_ ?_)
   | (with_reducible refine LeO.bind ?_ (fun _ => ?_))
   | exact ih0 _ _ _ _
   | exact LeO.none _
   | refine LeO.ite ?_ ?_
   | refine LeO.bind ?_ (fun _ => ?_)
set_option maxHeartbeats 8000000 in
set_option maxRecDepth 100000 in
theorem api_Tag.calls (k : Nat) (A0 : Option Addr) (c0 : Nat) (l0 : List (S70)) (A1 : Option Addr) (c1 : Nat) (l1 : List (S70)) (r : Bool) (w : World) (hr0 : Kd.C k70 w A0 l0.length l0) (hc0 : l0.length ≤ c0) (hr1 : Kd.C k70 w A1 l1.length l1) (hc1 : l1.length ≤ c1) (h : api_Tag.f k l0 l1 = some r) :
  Calls Try.prog 62 #[.slice A0 l0.length c0, .slice A1 l1.length c1] w fun e w' => e = .returned (.bool r) ∧ Drawn0 w w' := by
 have hu70 := Try.underlying70
 have HR0 := aM hr0
 have HC0 := aM hc0
 clear hr0 hc0
 have HR1 := aM hr1
 have HC1 := aM hc1
 clear hr1 hc1
 have H : (if (l0.length : Int) = (l1.length : Int) then (api_Tag.l0 k l0 l1 (l0.length : Int) 0) else (some false)) = some r := h
 clear h
 by_cases c3 : (l0.length : Int) = (l1.length : Int)
 ·rw [if_pos c3] at H
  have c3b0 : ((l0.length : Int) == (l1.length : Int)) = true := beq_iff_eq.mpr c3
  have c3b1 : ((l0.length : Int) != (l1.length : Int)) = false := bne_eq_false_iff_eq.mpr c3
  have c3b2 : (l0.length == l1.length) = true := by first | simpa using c3 | (simp at c3 ⊢; omega)
  clear c3
  have H' := aM H
  clear H
  go_enter Try.func62, Try.ntmps62
  go_wp2
  repeat (go_quiet (fail); try go_wp2)
  go_loopg [13] k (fun kq v13 w' => ∃ (x13_1 : Int), v13 = .int .i64 x13_1 ∧ Aside0 (api_Tag.l0 kq l0 l1 (l0.length : Int) x13_1 = some r) ∧ Aside0 (kq ≤ k) ∧ Drawn0 w w')
  case atStart => exact ⟨(0), (by first | rfl | (simp; done) | (simp [*]; done)), H', ⟨Nat.le_refl _⟩, by repeat (first | exact Drawn0.refl _ | apply Drawn0.step)⟩
  case round =>
   clear H'
   try clear c1
   try clear p2
   try clear c3
   try clear c3b0
   try clear c3b1
   try clear c3b2
   obtain ⟨x13_1, rfl, HA, HK1, ⟨m1, rfl⟩⟩ := hrel
   cases gk with
   | zero => exact absurd HA.out (by simp [api_Tag.l0])
   | succ k1 =>
    have H := HA.out
    clear HA
    simp only [api_Tag.l0] at H
    by_cases c4 : x13_1 < (l0.length : Int)
    ·rw [if_pos c4] at H
     have c4b0 : decide (x13_1 < (l0.length : Int)) = true := decide_eq_true c4
     clear c4
     by_cases c5 : 0 ≤ x13_1
     ·rw [if_pos c5] at H
      have c5b0 : decide (0 ≤ x13_1) = true := decide_eq_true c5
      clear c5
      by_cases c6 : x13_1 < (l0.length : Int)
      ·rw [if_pos c6] at H
       have c6b0 : decide (x13_1 < (l0.length : Int)) = true := decide_eq_true c6
       clear c6
       by_cases c7 : x13_1 < (l1.length : Int)
       ·rw [if_pos c7] at H
        have c7b0 : decide (x13_1 < (l1.length : Int)) = true := decide_eq_true c7
        clear c7
        by_cases c8 : (!((((rd_T70 l0 x13_1).f0).toList) == (((rd_T70 l1 x13_1).f0).toList)) || (!((((rd_T70 l0 x13_1).f1).toList) == (((rd_T70 l1 x13_1).f1).toList)))) = true
        ·rw [if_pos c8] at H
         have c8b0 : (!((((rd_T70 l0 x13_1).f0).toList) == (((rd_T70 l1 x13_1).f0).toList)) || (!((((rd_T70 l0 x13_1).f1).toList) == (((rd_T70 l1 x13_1).f1).toList)))) = true := c8
         clear c8
         obtain rfl := Option.some.inj H
         have p215 : 0 ≤ (x13_1 : Int) := oT
         have q215 : x13_1 < (l0.length : Int) := oT
         obtain ⟨ad215, e215, hx215_0, hx215_1⟩ := at_T70 HR0.out x13_1 p215 q215
         cases e215
         replace p215 := eq_true p215
         replace q215 := eq_true q215
         have p216 : 0 ≤ (x13_1 : Int) := oT
         have q216 : x13_1 < (l1.length : Int) := oT
         obtain ⟨ad216, e216, hx216_0, hx216_1⟩ := at_T70 HR1.out x13_1 p216 q216
         cases e216
         replace p216 := eq_true p216
         replace q216 := eq_true q216
         go_wp2
         repeat (go_quiet (fail); try go_wp2)
         go_ret
         exact ⟨by first | rfl | (simp; done) | (simp [*]; done), by repeat (first | exact Drawn0.refl _ | apply Drawn0.step)⟩
        ·rw [if_neg c8] at H
         have c8b0 : (!((((rd_T70 l0 x13_1).f0).toList) == (((rd_T70 l1 x13_1).f0).toList)) || (!((((rd_T70 l0 x13_1).f1).toList) == (((rd_T70 l1 x13_1).f1).toList)))) = false := by simpa using c8
         clear c8
         have H' := aM H
         clear H
         have p215 : 0 ≤ (x13_1 : Int) := oT
         have q215 : x13_1 < (l0.length : Int) := oT
         obtain ⟨ad215, e215, hx215_0, hx215_1⟩ := at_T70 HR0.out x13_1 p215 q215
         cases e215
         replace p215 := eq_true p215
         replace q215 := eq_true q215
         have p216 : 0 ≤ (x13_1 : Int) := oT
         have q216 : x13_1 < (l1.length : Int) := oT
         obtain ⟨ad216, e216, hx216_0, hx216_1⟩ := at_T70 HR1.out x13_1 p216 q216
         cases e216
         replace p216 := eq_true p216
         replace q216 := eq_true q216
         go_wp2
         repeat (go_quiet (fail); try go_wp2)
         go_roundg k1
         case measure => have := HK1.out; omega
         case rel => exact ⟨(wrap64 (x13_1 + 1)), (by first | rfl | (simp; done) | (simp [*]; done)), H', ⟨by have := HK1.out; omega⟩, by repeat (first | exact Drawn0.refl _ | apply Drawn0.step)⟩
       ·rw [if_neg c7] at H
        exact absurd H (by simp)
      ·rw [if_neg c6] at H
       exact absurd H (by simp)
     ·rw [if_neg c5] at H
      exact absurd H (by simp)
    ·rw [if_neg c4] at H
     have c4b0 : decide (x13_1 < (l0.length : Int)) = false := decide_eq_false c4
     clear c4
     obtain rfl := Option.some.inj H
     go_wp2
     repeat (go_quiet (fail); try go_wp2)
     go_ret
     exact ⟨by first | rfl | (simp; done) | (simp [*]; done), by repeat (first | exact Drawn0.refl _ | apply Drawn0.step)⟩
 ·rw [if_neg c3] at H
  have c3b0 : ((l0.length : Int) == (l1.length : Int)) = false := beq_eq_false_iff_ne.mpr c3
  have c3b1 : ((l0.length : Int) != (l1.length : Int)) = true := bne_iff_ne.mpr c3
  have c3b2 : (l0.length == l1.length) = false := by first | simpa using c3 | (simp at c3 ⊢; omega)
  obtain rfl := Option.some.inj H
  go_enter Try.func62, Try.ntmps62
  go_wp2
  repeat (go_quiet (fail); try go_wp2)
  go_ret
  exact ⟨by first | rfl | (simp; done) | (simp [*]; done), by repeat (first | exact Drawn0.refl _ | apply Drawn0.step)⟩
def data_Same_1.f (k : Nat) (a0_0 : Int) (a0_1 : Int) (a0_2 : Int) (l0_3 : List (S70)) (a1_0 : Int) (a1_1 : Int) (a1_2 : Int) (l1_3 : List (S70)) : Option (Bool) := if a0_0 = a1_0 then (if (a0_1 == a1_1 && (a0_2 == a1_2)) = true then ((api_Tag.f k l0_3 l1_3).bind fun t219 => (some t219)) else (some false)) else (some false)
theorem data_Same_1.mono : ∀ a0 a1 a2 a3 a4 a5 a6 a7 k, LeO (data_Same_1.f k a0 a1 a2 a3 a4 a5 a6 a7) (data_Same_1.f (k + 1) a0 a1 a2 a3 a4 a5 a6 a7) := by
 intro a0 a1 a2 a3 a4 a5 a6 a7 k
 unfold data_Same_1.f
 repeat' first
   | (with_reducible exact api_Tag.mono _ _ _)
   | (with_reducible exact LeO.refl _)
   | (with_reducible exact LeO.none _)
   | (with_reducible refine LeO.ite ?_ ?_)
   | (with_reducible refine LeO.bind ?_ (fun _ => ?_))
   | exact api_Tag.mono _ _ _
   | exact LeO.none _
   | refine LeO.ite ?_ ?_
   | refine LeO.bind ?_ (fun _ => ?_)
set_option maxHeartbeats 8000000 in
set_option maxRecDepth 100000 in
theorem data_Same_1.calls (k : Nat) (a0_0 : Int) (a0_1 : Int) (a0_2 : Int) (A0_3 : Option Addr) (c0_3 : Nat) (l0_3 : List (S70)) (a1_0 : Int) (a1_1 : Int) (a1_2 : Int) (A1_3 : Option Addr) (c1_3 : Nat) (l1_3 : List (S70)) (r : Bool) (w : World) (hr0_3 : Kd.C k70 w A0_3 l0_3.length l0_3) (hc0_3 : l0_3.length ≤ c0_3) (hr1_3 : Kd.C k70 w A1_3 l1_3.length l1_3) (hc1_3 : l1_3.length ≤ c1_3) (h : data_Same_1.f k a0_0 a0_1 a0_2 l0_3 a1_0 a1_1 a1_2 l1_3 = some r) :
  Calls Try.prog 61 #[.agg #[.int .i64 a0_0, .int .i64 a0_1, .int .i64 a0_2, .slice A0_3 l0_3.length c0_3], .agg #[.int .i64 a1_0, .int .i64 a1_1, .int .i64 a1_2, .slice A1_3 l1_3.length c1_3]] w fun e w' => e = .returned (.bool r) ∧ Below w.heap.size w w' := by
 have hu39 := Try.underlying39
 have hu36 := Try.underlying36
 have HR0_3 := aM hr0_3
 have HC0_3 := aM hc0_3
 clear hr0_3 hc0_3
 have HR1_3 := aM hr1_3
 have HC1_3 := aM hc1_3
 clear hr1_3 hc1_3
 have HB := aM (Below.refl w.heap.size w)
 have H : (if a0_0 = a1_0 then (if (a0_1 == a1_1 && (a0_2 == a1_2)) = true then ((api_Tag.f k l0_3 l1_3).bind fun t219 => (some t219)) else (some false)) else (some false)) = some r := h
 clear h
 by_cases c3 : a0_0 = a1_0
 ·rw [if_pos c3] at H
  have c3b0 : (a0_0 == a1_0) = true := beq_iff_eq.mpr c3
  have c3b1 : (a0_0 != a1_0) = false := bne_eq_false_iff_eq.mpr c3
  clear c3
  by_cases c4 : (a0_1 == a1_1 && (a0_2 == a1_2)) = true
  ·rw [if_pos c4] at H
   have c4b0 : (a0_1 == a1_1 && (a0_2 == a1_2)) = true := c4
   (try (have c4b1 : decide (a0_1 = a1_1 && (a0_2 == a1_2)) = true := by simpa using c4))
   (try (have c4b2 : (a0_1 == a1_1 && (a0_2 == a1_2)) = true := by simpa using c4))
   clear c4
   replace H := Option.bind_eq_some_iff.mp H
   obtain ⟨t219, A50, H⟩ := H
   try dsimp only at H
   have A5 := aM A50
   clear A50
   obtain rfl := Option.some.inj H
   go_enter Try.func61, Try.ntmps61
   go_wp2_with (first | ((with_reducible refine gate_dst (N := 2) rfl ?_); refine bx (N := 2) (cs := #[.int .i64 a0_0, .int .i64 a0_1, .int .i64 a0_2, .slice A0_3 l0_3.length c0_3]) (t := 39) ?_; intro gb217 hg w6 hbox hb; have n0_ := aM (bS (bl) hb); have n1_ := aM (hbox); have n3_ := aM (gw (w := w) hg); (try clear HB); have HB := n0_; have BK217 := n1_; have GE217 := n3_; clear n0_ n1_ n3_ hb hbox hg) | ((with_reducible refine gate_dst (N := 3) rfl ?_); refine bx (N := 3) (cs := #[.int .i64 a1_0, .int .i64 a1_1, .int .i64 a1_2, .slice A1_3 l1_3.length c1_3]) (t := 39) ?_; intro gb218 hg w7 hbox hb; have n0_ := aM (kB (kl BK217) hb); have n1_ := aM (bS (bl) hb); have n2_ := aM (hbox); have n4_ := aM (gw (w := w) hg); have n5_ := aM (nb BK217 hg); have n6_ := aM (nb BK217 hg).symm; (try clear BK217); (try clear HB); have BK217 := n0_; have HB := n1_; have BK218 := n2_; have GE218 := n4_; have NB217_218 := n5_; have NB218_217 := n6_; clear n0_ n1_ n2_ n4_ n5_ n6_ hb hbox hg; have hnb8 := NB217_218.out; have hnc8 := NB218_217.out; obtain ⟨hcz9_0, hcz9_1, hcz9_2, hcz9_3, hfz9_0, hfz9_1, hfz9_2, hfz9_3⟩ := bc4 BK217; obtain ⟨hcz10_0, hcz10_1, hcz10_2, hcz10_3, hfz10_0, hfz10_1, hfz10_2, hfz10_3⟩ := bc4 BK218) | (go_at_call 62; (with_reducible refine (api_Tag.calls k _ _ l0_3 _ _ l1_3 t219 _ ?side1 ?side2 ?side3 ?side4 A5.out).mono ?_); (case side1 => exact cl HR0_3); (case side2 => exact HC0_3.out); (case side3 => exact cl HR1_3); (case side4 => exact HC1_3.out); rintro e w' ⟨rfl, ⟨nd, rfl⟩⟩))
   go_ret
   exact ⟨by first | rfl | (simp [errW_none, errW_some] <;> rfl) | (simp [*, errW_none, errW_some] <;> rfl), bl⟩
  ·rw [if_neg c4] at H
   have c4b0 : (a0_1 == a1_1 && (a0_2 == a1_2)) = false := by simpa using c4
   (try (have c4b1 : decide (a0_1 = a1_1 && (a0_2 == a1_2)) = false := by simpa using c4))
   (try (have c4b2 : (a0_1 == a1_1 && (a0_2 == a1_2)) = false := by simpa using c4))
   (try (have c4b3 : ¬ (a0_1 = a1_1 && (a0_2 == a1_2)) := by simpa using c4))
   clear c4
   obtain rfl := Option.some.inj H
   go_enter Try.func61, Try.ntmps61
   go_wp2_with (first | ((with_reducible refine gate_dst (N := 2) rfl ?_); refine bx (N := 2) (cs := #[.int .i64 a0_0, .int .i64 a0_1, .int .i64 a0_2, .slice A0_3 l0_3.length c0_3]) (t := 39) ?_; intro gb217 hg w11 hbox hb; have n0_ := aM (bS (bl) hb); have n1_ := aM (hbox); have n3_ := aM (gw (w := w) hg); (try clear HB); have HB := n0_; have BK217 := n1_; have GE217 := n3_; clear n0_ n1_ n3_ hb hbox hg) | ((with_reducible refine gate_dst (N := 3) rfl ?_); refine bx (N := 3) (cs := #[.int .i64 a1_0, .int .i64 a1_1, .int .i64 a1_2, .slice A1_3 l1_3.length c1_3]) (t := 39) ?_; intro gb218 hg w12 hbox hb; have n0_ := aM (kB (kl BK217) hb); have n1_ := aM (bS (bl) hb); have n2_ := aM (hbox); have n4_ := aM (gw (w := w) hg); have n5_ := aM (nb BK217 hg); have n6_ := aM (nb BK217 hg).symm; (try clear BK217); (try clear HB); have BK217 := n0_; have HB := n1_; have BK218 := n2_; have GE218 := n4_; have NB217_218 := n5_; have NB218_217 := n6_; clear n0_ n1_ n2_ n4_ n5_ n6_ hb hbox hg; have hnb13 := NB217_218.out; have hnc13 := NB218_217.out; obtain ⟨hcz14_0, hcz14_1, hcz14_2, hcz14_3, hfz14_0, hfz14_1, hfz14_2, hfz14_3⟩ := bc4 BK217; obtain ⟨hcz15_0, hcz15_1, hcz15_2, hcz15_3, hfz15_0, hfz15_1, hfz15_2, hfz15_3⟩ := bc4 BK218))
   go_ret
   exact ⟨by first | rfl | (simp [errW_none, errW_some] <;> rfl) | (simp [*, errW_none, errW_some] <;> rfl), bl⟩
 ·rw [if_neg c3] at H
  have c3b0 : (a0_0 == a1_0) = false := beq_eq_false_iff_ne.mpr c3
  have c3b1 : (a0_0 != a1_0) = true := bne_iff_ne.mpr c3
  obtain rfl := Option.some.inj H
  go_enter Try.func61, Try.ntmps61
  go_wp2_with (first | ((with_reducible refine gate_dst (N := 2) rfl ?_); refine bx (N := 2) (cs := #[.int .i64 a0_0, .int .i64 a0_1, .int .i64 a0_2, .slice A0_3 l0_3.length c0_3]) (t := 39) ?_; intro gb217 hg w16 hbox hb; have n0_ := aM (bS (bl) hb); have n1_ := aM (hbox); have n3_ := aM (gw (w := w) hg); (try clear HB); have HB := n0_; have BK217 := n1_; have GE217 := n3_; clear n0_ n1_ n3_ hb hbox hg) | ((with_reducible refine gate_dst (N := 3) rfl ?_); refine bx (N := 3) (cs := #[.int .i64 a1_0, .int .i64 a1_1, .int .i64 a1_2, .slice A1_3 l1_3.length c1_3]) (t := 39) ?_; intro gb218 hg w17 hbox hb; have n0_ := aM (kB (kl BK217) hb); have n1_ := aM (bS (bl) hb); have n2_ := aM (hbox); have n4_ := aM (gw (w := w) hg); have n5_ := aM (nb BK217 hg); have n6_ := aM (nb BK217 hg).symm; (try clear BK217); (try clear HB); have BK217 := n0_; have HB := n1_; have BK218 := n2_; have GE218 := n4_; have NB217_218 := n5_; have NB218_217 := n6_; clear n0_ n1_ n2_ n4_ n5_ n6_ hb hbox hg; have hnb18 := NB217_218.out; have hnc18 := NB218_217.out; obtain ⟨hcz19_0, hcz19_1, hcz19_2, hcz19_3, hfz19_0, hfz19_1, hfz19_2, hfz19_3⟩ := bc4 BK217; obtain ⟨hcz20_0, hcz20_1, hcz20_2, hcz20_3, hfz20_0, hfz20_1, hfz20_2, hfz20_3⟩ := bc4 BK218))
  go_ret
  exact ⟨by first | rfl | (simp [errW_none, errW_some] <;> rfl) | (simp [*, errW_none, errW_some] <;> rfl), bl⟩
-- NOT PRINTED: function 60 (api_Node)
def slices_Equal_int_int.l0 : Nat → List Int → List Int → Int → Int → Option (Bool)
 | 0, _, _, _, _ => none
 | k + 1, x0, x1, x12, x13 => if x13 < x12 then (if 0 ≤ x13 then (if x13 < (x0.length : Int) then (if x13 < (x1.length : Int) then (if (rd x0 x13) = (rd x1 x13) then (slices_Equal_int_int.l0 k x0 x1 x12 (wrap64 (x13 + 1))) else (some false)) else (none)) else (none)) else (none)) else (some true)
def slices_Equal_int_int.f (k : Nat) (l0 : List Int) (l1 : List Int) : Option (Bool) := if (l0.length : Int) = (l1.length : Int) then (slices_Equal_int_int.l0 k l0 l1 (l0.length : Int) 0) else (some false)
theorem slices_Equal_int_int.mono_l : ∀ k, (∀ y0 y1 y2 y3, LeO (slices_Equal_int_int.l0 k y0 y1 y2 y3) (slices_Equal_int_int.l0 (k + 1) y0 y1 y2 y3))
 | 0 => fun _ _ _ _ r h => by simp [slices_Equal_int_int.l0] at h
 | k + 1 => by
  have ih0 := slices_Equal_int_int.mono_l k
  ·intro y0 y1 y2 y3
   unfold slices_Equal_int_int.l0
   repeat' first
   | (with_reducible exact ih0 _ _ _ _)
   | (with_reducible exact LeO.refl _)
   | (with_reducible exact LeO.none _)
   | (with_reducible refine LeO.ite ?_ ?_)
   | (with_reducible refine LeO.bind ?_ (fun _ => ?_))
   | exact ih0 _ _ _ _
   | exact LeO.none _
   | refine LeO.ite ?_ ?_
   | refine LeO.bind ?_ (fun _ => ?_)
theorem slices_Equal_int_int.mono : ∀ a0 a1 k, LeO (slices_Equal_int_int.f k a0 a1) (slices_Equal_int_int.f (k + 1) a0 a1) := by
 intro a0 a1 k
 have ih0 := slices_Equal_int_int.mono_l k
 unfold slices_Equal_int_int.f
 repeat' first
   | (with_reducible exact ih0 _ _ _ _)
   | (with_reducible exact LeO.refl _)
   | (with_reducible exact LeO.none _)
   | (with_reducible refine LeO.ite ?_ ?_)
   | (with_reducible refine LeO.bind ?_ (fun _ => ?_))
   | exact ih0 _ _ _ _
   | exact LeO.none _
   | refine LeO.ite ?_ ?_
   | refine LeO.bind ?_ (fun _ => ?_)
set_option maxHeartbeats 8000000 in
set_option maxRecDepth 100000 in
theorem slices_Equal_int_int.calls (k : Nat) (A0 : Option Addr) (c0 : Nat) (l0 : List Int) (A1 : Option Addr) (c1 : Nat) (l1 : List Int) (r : Bool) (w : World) (hr0 : Kd.C (Kd.int .i64) w A0 l0.length l0) (hc0 : l0.length ≤ c0) (hr1 : Kd.C (Kd.int .i64) w A1 l1.length l1) (hc1 : l1.length ≤ c1) (h : slices_Equal_int_int.f k l0 l1 = some r) :
  Calls Try.prog 65 #[.slice A0 l0.length c0, .slice A1 l1.length c1] w fun e w' => e = .returned (.bool r) ∧ Drawn0 w w' := by
 have HR0 := aM hr0
 have HC0 := aM hc0
 clear hr0 hc0
 have HR1 := aM hr1
 have HC1 := aM hc1
 clear hr1 hc1
 have H : (if (l0.length : Int) = (l1.length : Int) then (slices_Equal_int_int.l0 k l0 l1 (l0.length : Int) 0) else (some false)) = some r := h
 clear h
 by_cases c3 : (l0.length : Int) = (l1.length : Int)
 ·rw [if_pos c3] at H
  have c3b0 : ((l0.length : Int) == (l1.length : Int)) = true := beq_iff_eq.mpr c3
  have c3b1 : ((l0.length : Int) != (l1.length : Int)) = false := bne_eq_false_iff_eq.mpr c3
  have c3b2 : (l0.length == l1.length) = true := by first | simpa using c3 | (simp at c3 ⊢; omega)
  clear c3
  have H' := aM H
  clear H
  go_enter Try.func65, Try.ntmps65
  go_wp2
  repeat (go_quiet (fail); try go_wp2)
  go_loopg [13] k (fun kq v13 w' => ∃ (x13_1 : Int), v13 = .int .i64 x13_1 ∧ Aside0 (slices_Equal_int_int.l0 kq l0 l1 (l0.length : Int) x13_1 = some r) ∧ Aside0 (kq ≤ k) ∧ Drawn0 w w')
  case atStart => exact ⟨(0), (by first | rfl | (simp; done) | (simp [*]; done)), H', ⟨Nat.le_refl _⟩, by repeat (first | exact Drawn0.refl _ | apply Drawn0.step)⟩
  case round =>
   clear H'
   try clear c1
   try clear p2
   try clear c3
   try clear c3b0
   try clear c3b1
   try clear c3b2
   obtain ⟨x13_1, rfl, HA, HK1, ⟨m1, rfl⟩⟩ := hrel
   cases gk with
   | zero => exact absurd HA.out (by simp [slices_Equal_int_int.l0])
   | succ k1 =>
    have H := HA.out
    clear HA
    simp only [slices_Equal_int_int.l0] at H
    by_cases c4 : x13_1 < (l0.length : Int)
    ·rw [if_pos c4] at H
     have c4b0 : decide (x13_1 < (l0.length : Int)) = true := decide_eq_true c4
     clear c4
     by_cases c5 : 0 ≤ x13_1
     ·rw [if_pos c5] at H
      have c5b0 : decide (0 ≤ x13_1) = true := decide_eq_true c5
      clear c5
      by_cases c6 : x13_1 < (l0.length : Int)
      ·rw [if_pos c6] at H
       have c6b0 : decide (x13_1 < (l0.length : Int)) = true := decide_eq_true c6
       clear c6
       by_cases c7 : x13_1 < (l1.length : Int)
       ·rw [if_pos c7] at H
        have c7b0 : decide (x13_1 < (l1.length : Int)) = true := decide_eq_true c7
        clear c7
        by_cases c8 : (rd l0 x13_1) = (rd l1 x13_1)
        ·rw [if_pos c8] at H
         have c8b0 : ((rd l0 x13_1) == (rd l1 x13_1)) = true := beq_iff_eq.mpr c8
         have c8b1 : ((rd l0 x13_1) != (rd l1 x13_1)) = false := bne_eq_false_iff_eq.mpr c8
         clear c8
         have H' := aM H
         clear H
         have p220 : 0 ≤ (x13_1 : Int) := oT
         have q220 : x13_1 < (l0.length : Int) := oT
         obtain ⟨ad220, e220, hx220_0⟩ := Kd.at_int HR0.out x13_1 p220 q220
         cases e220
         replace p220 := eq_true p220
         replace q220 := eq_true q220
         have p221 : 0 ≤ (x13_1 : Int) := oT
         have q221 : x13_1 < (l1.length : Int) := oT
         obtain ⟨ad221, e221, hx221_0⟩ := Kd.at_int HR1.out x13_1 p221 q221
         cases e221
         replace p221 := eq_true p221
         replace q221 := eq_true q221
         go_wp2
         repeat (go_quiet (fail); try go_wp2)
         go_roundg k1
         case measure => have := HK1.out; omega
         case rel => exact ⟨(wrap64 (x13_1 + 1)), (by first | rfl | (simp; done) | (simp [*]; done)), H', ⟨by have := HK1.out; omega⟩, by repeat (first | exact Drawn0.refl _ | apply Drawn0.step)⟩
        ·rw [if_neg c8] at H
         have c8b0 : ((rd l0 x13_1) == (rd l1 x13_1)) = false := beq_eq_false_iff_ne.mpr c8
         have c8b1 : ((rd l0 x13_1) != (rd l1 x13_1)) = true := bne_iff_ne.mpr c8
         obtain rfl := Option.some.inj H
         have p220 : 0 ≤ (x13_1 : Int) := oT
         have q220 : x13_1 < (l0.length : Int) := oT
         obtain ⟨ad220, e220, hx220_0⟩ := Kd.at_int HR0.out x13_1 p220 q220
         cases e220
         replace p220 := eq_true p220
         replace q220 := eq_true q220
         have p221 : 0 ≤ (x13_1 : Int) := oT
         have q221 : x13_1 < (l1.length : Int) := oT
         obtain ⟨ad221, e221, hx221_0⟩ := Kd.at_int HR1.out x13_1 p221 q221
         cases e221
         replace p221 := eq_true p221
         replace q221 := eq_true q221
         go_wp2
         repeat (go_quiet (fail); try go_wp2)
         go_ret
         exact ⟨by first | rfl | (simp; done) | (simp [*]; done), by repeat (first | exact Drawn0.refl _ | apply Drawn0.step)⟩
       ·rw [if_neg c7] at H
        exact absurd H (by simp)
      ·rw [if_neg c6] at H
       exact absurd H (by simp)
     ·rw [if_neg c5] at H
      exact absurd H (by simp)
    ·rw [if_neg c4] at H
     have c4b0 : decide (x13_1 < (l0.length : Int)) = false := decide_eq_false c4
     clear c4
     obtain rfl := Option.some.inj H
     go_wp2
     repeat (go_quiet (fail); try go_wp2)
     go_ret
     exact ⟨by first | rfl | (simp; done) | (simp [*]; done), by repeat (first | exact Drawn0.refl _ | apply Drawn0.step)⟩
 ·rw [if_neg c3] at H
  have c3b0 : ((l0.length : Int) == (l1.length : Int)) = false := beq_eq_false_iff_ne.mpr c3
  have c3b1 : ((l0.length : Int) != (l1.length : Int)) = true := bne_iff_ne.mpr c3
  have c3b2 : (l0.length == l1.length) = false := by first | simpa using c3 | (simp at c3 ⊢; omega)
  obtain rfl := Option.some.inj H
  go_enter Try.func65, Try.ntmps65
  go_wp2
  repeat (go_quiet (fail); try go_wp2)
  go_ret
  exact ⟨by first | rfl | (simp; done) | (simp [*]; done), by repeat (first | exact Drawn0.refl _ | apply Drawn0.step)⟩
def data_Same_2.f (k : Nat) (a0_0 : Int) (l0_1 : List Int) (l0_2 : List (S70)) (a1_0 : Int) (l1_1 : List Int) (l1_2 : List (S70)) : Option (Bool) := if a0_0 = a1_0 then ((slices_Equal_int_int.f k l0_1 l1_1).bind fun t224 => (if t224 = true then ((api_Tag.f k l0_2 l1_2).bind fun t225 => (some t225)) else (some false))) else (some false)
theorem data_Same_2.mono : ∀ a0 a1 a2 a3 a4 a5 k, LeO (data_Same_2.f k a0 a1 a2 a3 a4 a5) (data_Same_2.f (k + 1) a0 a1 a2 a3 a4 a5) := by
 intro a0 a1 a2 a3 a4 a5 k
 unfold data_Same_2.f
 repeat' first
   | (with_reducible exact api_Tag.mono _ _ _)
   | (with_reducible exact slices_Equal_int_int.mono _ _ _)
   | (with_reducible exact LeO.refl _)
   | (with_reducible exact LeO.none _)
   | (with_reducible refine LeO.ite ?_ ?_)
   | (with_reducible refine LeO.bind ?_ (fun _ => ?_))
   | exact api_Tag.mono _ _ _
   | exact slices_Equal_int_int.mono _ _ _
   | exact LeO.none _
   | refine LeO.ite ?_ ?_
   | refine LeO.bind ?_ (fun _ => ?_)
set_option maxHeartbeats 8000000 in
set_option maxRecDepth 100000 in
theorem data_Same_2.calls (k : Nat) (a0_0 : Int) (A0_1 : Option Addr) (c0_1 : Nat) (l0_1 : List Int) (A0_2 : Option Addr) (c0_2 : Nat) (l0_2 : List (S70)) (a1_0 : Int) (A1_1 : Option Addr) (c1_1 : Nat) (l1_1 : List Int) (A1_2 : Option Addr) (c1_2 : Nat) (l1_2 : List (S70)) (r : Bool) (w : World) (hr0_1 : Kd.C (Kd.int .i64) w A0_1 l0_1.length l0_1) (hc0_1 : l0_1.length ≤ c0_1) (hr0_2 : Kd.C k70 w A0_2 l0_2.length l0_2) (hc0_2 : l0_2.length ≤ c0_2) (hr1_1 : Kd.C (Kd.int .i64) w A1_1 l1_1.length l1_1) (hc1_1 : l1_1.length ≤ c1_1) (hr1_2 : Kd.C k70 w A1_2 l1_2.length l1_2) (hc1_2 : l1_2.length ≤ c1_2) (h : data_Same_2.f k a0_0 l0_1 l0_2 a1_0 l1_1 l1_2 = some r) :
  Calls Try.prog 64 #[.agg #[.int .i64 a0_0, .slice A0_1 l0_1.length c0_1, .slice A0_2 l0_2.length c0_2], .agg #[.int .i64 a1_0, .slice A1_1 l1_1.length c1_1, .slice A1_2 l1_2.length c1_2]] w fun e w' => e = .returned (.bool r) ∧ Below w.heap.size w w' := by
 have hu45 := Try.underlying45
 have HR0_1 := aM hr0_1
 have HC0_1 := aM hc0_1
 clear hr0_1 hc0_1
 have HR0_2 := aM hr0_2
 have HC0_2 := aM hc0_2
 clear hr0_2 hc0_2
 have HR1_1 := aM hr1_1
 have HC1_1 := aM hc1_1
 clear hr1_1 hc1_1
 have HR1_2 := aM hr1_2
 have HC1_2 := aM hc1_2
 clear hr1_2 hc1_2
 have HB := aM (Below.refl w.heap.size w)
 have H : (if a0_0 = a1_0 then ((slices_Equal_int_int.f k l0_1 l1_1).bind fun t224 => (if t224 = true then ((api_Tag.f k l0_2 l1_2).bind fun t225 => (some t225)) else (some false))) else (some false)) = some r := h
 clear h
 by_cases c3 : a0_0 = a1_0
 ·rw [if_pos c3] at H
  have c3b0 : (a0_0 == a1_0) = true := beq_iff_eq.mpr c3
  have c3b1 : (a0_0 != a1_0) = false := bne_eq_false_iff_eq.mpr c3
  clear c3
  replace H := Option.bind_eq_some_iff.mp H
  obtain ⟨t224, A40, H⟩ := H
  try dsimp only at H
  have A4 := aM A40
  clear A40
  by_cases c5 : t224 = true
  ·subst c5
   have H1 : ((api_Tag.f k l0_2 l1_2).bind fun t225 => (some t225)) = some r := by rw [if_pos rfl] at H; exact H
   clear H
   have H := H1
   clear H1
   replace H := Option.bind_eq_some_iff.mp H
   obtain ⟨t225, A60, H⟩ := H
   try dsimp only at H
   have A6 := aM A60
   clear A60
   obtain rfl := Option.some.inj H
   go_enter Try.func64, Try.ntmps64
   go_wp2_with (first | ((with_reducible refine gate_dst (N := 2) rfl ?_); refine bx (N := 2) (cs := #[.int .i64 a0_0, .slice A0_1 l0_1.length c0_1, .slice A0_2 l0_2.length c0_2]) (t := 45) ?_; intro gb222 hg w7 hbox hb; have n0_ := aM (bS (bl) hb); have n1_ := aM (hbox); have n3_ := aM (gw (w := w) hg); (try clear HB); have HB := n0_; have BK222 := n1_; have GE222 := n3_; clear n0_ n1_ n3_ hb hbox hg) | ((with_reducible refine gate_dst (N := 3) rfl ?_); refine bx (N := 3) (cs := #[.int .i64 a1_0, .slice A1_1 l1_1.length c1_1, .slice A1_2 l1_2.length c1_2]) (t := 45) ?_; intro gb223 hg w8 hbox hb; have n0_ := aM (kB (kl BK222) hb); have n1_ := aM (bS (bl) hb); have n2_ := aM (hbox); have n4_ := aM (gw (w := w) hg); have n5_ := aM (nb BK222 hg); have n6_ := aM (nb BK222 hg).symm; (try clear BK222); (try clear HB); have BK222 := n0_; have HB := n1_; have BK223 := n2_; have GE223 := n4_; have NB222_223 := n5_; have NB223_222 := n6_; clear n0_ n1_ n2_ n4_ n5_ n6_ hb hbox hg; have hnb9 := NB222_223.out; have hnc9 := NB223_222.out; obtain ⟨hcz10_0, hcz10_1, hcz10_2, hfz10_0, hfz10_1, hfz10_2⟩ := bc3 BK222; obtain ⟨hcz11_0, hcz11_1, hcz11_2, hfz11_0, hfz11_1, hfz11_2⟩ := bc3 BK223) | (go_at_call 65; (with_reducible refine (slices_Equal_int_int.calls k _ _ l0_1 _ _ l1_1 true _ ?side1 ?side2 ?side3 ?side4 A4.out).mono ?_); (case side1 => exact cl HR0_1); (case side2 => exact HC0_1.out); (case side3 => exact cl HR1_1); (case side4 => exact HC1_1.out); rintro e w' ⟨rfl, ⟨nd, rfl⟩⟩) | (go_at_call 62; (with_reducible refine (api_Tag.calls k _ _ l0_2 _ _ l1_2 t225 _ ?side1 ?side2 ?side3 ?side4 A6.out).mono ?_); (case side1 => repeat (first | exact (Kd.C_below HR0_2.out (bl)) | (with_reducible refine cA ?_ _) | (with_reducible refine cN ?_ _) | (with_reducible refine cD ?_))); (case side2 => exact HC0_2.out); (case side3 => repeat (first | exact (Kd.C_below HR1_2.out (bl)) | (with_reducible refine cA ?_ _) | (with_reducible refine cN ?_ _) | (with_reducible refine cD ?_))); (case side4 => exact HC1_2.out); rintro e w' ⟨rfl, ⟨nd, rfl⟩⟩))
   go_ret
   exact ⟨by first | rfl | (simp [errW_none, errW_some] <;> rfl) | (simp [*, errW_none, errW_some] <;> rfl), bl⟩
  ·replace c5 := Bool.eq_false_iff.mpr c5
   subst c5
   have H1 : (some false) = some r := by rw [if_neg (show ¬ (false = true) by decide)] at H; exact H
   clear H
   have H := H1
   clear H1
   obtain rfl := Option.some.inj H
   go_enter Try.func64, Try.ntmps64
   go_wp2_with (first | ((with_reducible refine gate_dst (N := 2) rfl ?_); refine bx (N := 2) (cs := #[.int .i64 a0_0, .slice A0_1 l0_1.length c0_1, .slice A0_2 l0_2.length c0_2]) (t := 45) ?_; intro gb222 hg w12 hbox hb; have n0_ := aM (bS (bl) hb); have n1_ := aM (hbox); have n3_ := aM (gw (w := w) hg); (try clear HB); have HB := n0_; have BK222 := n1_; have GE222 := n3_; clear n0_ n1_ n3_ hb hbox hg) | ((with_reducible refine gate_dst (N := 3) rfl ?_); refine bx (N := 3) (cs := #[.int .i64 a1_0, .slice A1_1 l1_1.length c1_1, .slice A1_2 l1_2.length c1_2]) (t := 45) ?_; intro gb223 hg w13 hbox hb; have n0_ := aM (kB (kl BK222) hb); have n1_ := aM (bS (bl) hb); have n2_ := aM (hbox); have n4_ := aM (gw (w := w) hg); have n5_ := aM (nb BK222 hg); have n6_ := aM (nb BK222 hg).symm; (try clear BK222); (try clear HB); have BK222 := n0_; have HB := n1_; have BK223 := n2_; have GE223 := n4_; have NB222_223 := n5_; have NB223_222 := n6_; clear n0_ n1_ n2_ n4_ n5_ n6_ hb hbox hg; have hnb14 := NB222_223.out; have hnc14 := NB223_222.out; obtain ⟨hcz15_0, hcz15_1, hcz15_2, hfz15_0, hfz15_1, hfz15_2⟩ := bc3 BK222; obtain ⟨hcz16_0, hcz16_1, hcz16_2, hfz16_0, hfz16_1, hfz16_2⟩ := bc3 BK223) | (go_at_call 65; (with_reducible refine (slices_Equal_int_int.calls k _ _ l0_1 _ _ l1_1 false _ ?side1 ?side2 ?side3 ?side4 A4.out).mono ?_); (case side1 => exact cl HR0_1); (case side2 => exact HC0_1.out); (case side3 => exact cl HR1_1); (case side4 => exact HC1_1.out); rintro e w' ⟨rfl, ⟨nd, rfl⟩⟩))
   go_ret
   exact ⟨by first | rfl | (simp [errW_none, errW_some] <;> rfl) | (simp [*, errW_none, errW_some] <;> rfl), bl⟩
 ·rw [if_neg c3] at H
  have c3b0 : (a0_0 == a1_0) = false := beq_eq_false_iff_ne.mpr c3
  have c3b1 : (a0_0 != a1_0) = true := bne_iff_ne.mpr c3
  obtain rfl := Option.some.inj H
  go_enter Try.func64, Try.ntmps64
  go_wp2_with (first | ((with_reducible refine gate_dst (N := 2) rfl ?_); refine bx (N := 2) (cs := #[.int .i64 a0_0, .slice A0_1 l0_1.length c0_1, .slice A0_2 l0_2.length c0_2]) (t := 45) ?_; intro gb222 hg w17 hbox hb; have n0_ := aM (bS (bl) hb); have n1_ := aM (hbox); have n3_ := aM (gw (w := w) hg); (try clear HB); have HB := n0_; have BK222 := n1_; have GE222 := n3_; clear n0_ n1_ n3_ hb hbox hg) | ((with_reducible refine gate_dst (N := 3) rfl ?_); refine bx (N := 3) (cs := #[.int .i64 a1_0, .slice A1_1 l1_1.length c1_1, .slice A1_2 l1_2.length c1_2]) (t := 45) ?_; intro gb223 hg w18 hbox hb; have n0_ := aM (kB (kl BK222) hb); have n1_ := aM (bS (bl) hb); have n2_ := aM (hbox); have n4_ := aM (gw (w := w) hg); have n5_ := aM (nb BK222 hg); have n6_ := aM (nb BK222 hg).symm; (try clear BK222); (try clear HB); have BK222 := n0_; have HB := n1_; have BK223 := n2_; have GE223 := n4_; have NB222_223 := n5_; have NB223_222 := n6_; clear n0_ n1_ n2_ n4_ n5_ n6_ hb hbox hg; have hnb19 := NB222_223.out; have hnc19 := NB223_222.out; obtain ⟨hcz20_0, hcz20_1, hcz20_2, hfz20_0, hfz20_1, hfz20_2⟩ := bc3 BK222; obtain ⟨hcz21_0, hcz21_1, hcz21_2, hfz21_0, hfz21_1, hfz21_2⟩ := bc3 BK223))
  go_ret
  exact ⟨by first | rfl | (simp [errW_none, errW_some] <;> rfl) | (simp [*, errW_none, errW_some] <;> rfl), bl⟩
-- NOT PRINTED: function 63 (api_Way)
end Go.Proofs.Ytgenbepicnbecaa.PAll
