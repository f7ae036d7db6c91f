-- out of a driver of this session's prover over the kit's print: Lean checks it
import Derived.Test.YtgenbepicnbecaaPAllx0
import Derived.Test.YtgenbepicnbecaaPAllx1
import Derived.Test.YtgenbepicnbecaaPAllx25
namespace Go.Proofs.Ytgenbepicnbecaa.PAll
open Go.Proofs.YtgenbepicnbecaaG Go.Shelf Go.Lib
open Go.RowKit Go.Proofs.YtgenbepicnbecaaW.PrintWords Go.Proofs.YtgenbepicnbecaaW.PrintLast Go.Proofs.YtgenbepicnbecaaW.PrintMore
attribute [local go_sem] max2_int min2_int max_two min_two max_three min_three max_four min_four   -- for this text's walks alone
set_option linter.unusedVariables false
set_option linter.unusedSimpArgs false
attribute [local go_sem high] eqA34
mutual
def mapmakerref14_Users.l0 : Nat → List (S34) → Int → List (S39) → List (S45) → List (S51) → Int → Int → Option ((List (S34)))
 | 0, _, _, _, _, _, _, _ => none
 | k + 1, x5, x6, x363000, x363001, x363002, x364000, x364001 => if x6 < (x363001.length : Int) then (mapmakerref14_Users.j1 k x5 x6 (x364000 == 1) x363000 x363001 x363002 x364000 x364001) else (mapmakerref14_Users.j1 k x5 x6 false x363000 x363001 x363002 x364000 x364001)
def mapmakerref14_Users.j1 : Nat → List (S34) → Int → Bool → List (S39) → List (S45) → List (S51) → Int → Int → Option ((List (S34)))
 | 0, _, _, _, _, _, _, _, _ => none
 | k + 1, x5, x6, x19, x363000, x363001, x363002, x364000, x364001 => if x19 = true then (mapmakerref14_Users.l1 k x5 x6 0 x363000 x363001 x363002 x364000 x364001) else (mapmakerref14_Users.l2 k x5 0 x363000 x363001 x363002 x364000 x364001)
def mapmakerref14_Users.l1 : Nat → List (S34) → Int → Int → List (S39) → List (S45) → List (S51) → Int → Int → Option ((List (S34)))
 | 0, _, _, _, _, _, _, _, _ => none
 | k + 1, x5, x6, x7, x363000, x363001, x363002, x364000, x364001 => if 0 ≤ x6 then (if x6 < (x363001.length : Int) then (if x7 < (((rd_T45 x363001 x6).f1).length : Int) then (if 0 ≤ x7 then (if (rd ((rd_T45 x363001 x6).f1) x7) = x364001 then ((mapmakerref14_With.f k x5 2 ((rd_T45 x363001 x6).f0)).bind fun t368 => (mapmakerref14_Users.l1 k t368 x6 (wrap64 (x7 + 1)) x363000 x363001 x363002 x364000 x364001)) else (mapmakerref14_Users.l1 k x5 x6 (wrap64 (x7 + 1)) x363000 x363001 x363002 x364000 x364001)) else (none)) else (mapmakerref14_Users.l0 k x5 (wrap64 (x6 + 1)) x363000 x363001 x363002 x364000 x364001)) else (none)) else (none)
def mapmakerref14_Users.l2 : Nat → List (S34) → Int → List (S39) → List (S45) → List (S51) → Int → Int → Option ((List (S34)))
 | 0, _, _, _, _, _, _, _ => none
 | k + 1, x5, x8, x363000, x363001, x363002, x364000, x364001 => if x8 < (x363002.length : Int) then (mapmakerref14_Users.l3 k x5 x8 0 x363000 x363001 x363002 x364000 x364001) else (some x5)
def mapmakerref14_Users.l3 : Nat → List (S34) → Int → Int → List (S39) → List (S45) → List (S51) → Int → Int → Option ((List (S34)))
 | 0, _, _, _, _, _, _, _, _ => none
 | k + 1, x5, x8, x9, x363000, x363001, x363002, x364000, x364001 => if 0 ≤ x8 then (if x8 < (x363002.length : Int) then (if x9 < (((rd_T51 x363002 x8).f1).length : Int) then (if 0 ≤ x9 then (if (((rd_T67 ((rd_T51 x363002 x8).f1) x9).f0.f0) == x364000 && (((rd_T67 ((rd_T51 x363002 x8).f1) x9).f0.f1) == x364001)) = true then ((mapmakerref14_With.f k x5 3 ((rd_T51 x363002 x8).f0)).bind fun t375 => (mapmakerref14_Users.l3 k t375 x8 (wrap64 (x9 + 1)) x363000 x363001 x363002 x364000 x364001)) else (mapmakerref14_Users.l3 k x5 x8 (wrap64 (x9 + 1)) x363000 x363001 x363002 x364000 x364001)) else (none)) else (mapmakerref14_Users.l2 k x5 (wrap64 (x8 + 1)) x363000 x363001 x363002 x364000 x364001)) else (none)) else (none)
end
def mapmakerref14_Users.f (k : Nat) (l0_0 : List (S39)) (l0_1 : List (S45)) (l0_2 : List (S51)) (a1_0 : Int) (a1_1 : Int) : Option ((List (S34))) := mapmakerref14_Users.l0 k ([] : List (S34)) 0 l0_0 l0_1 l0_2 a1_0 a1_1
theorem mapmakerref14_Users.mono_l : ∀ k, (∀ y0 y1 y2 y3 y4 y5 y6, LeO (mapmakerref14_Users.l0 k y0 y1 y2 y3 y4 y5 y6) (mapmakerref14_Users.l0 (k + 1) y0 y1 y2 y3 y4 y5 y6)) ∧ (∀ y0 y1 y2 y3 y4 y5 y6 y7, LeO (mapmakerref14_Users.j1 k y0 y1 y2 y3 y4 y5 y6 y7) (mapmakerref14_Users.j1 (k + 1) y0 y1 y2 y3 y4 y5 y6 y7)) ∧ (∀ y0 y1 y2 y3 y4 y5 y6 y7, LeO (mapmakerref14_Users.l1 k y0 y1 y2 y3 y4 y5 y6 y7) (mapmakerref14_Users.l1 (k + 1) y0 y1 y2 y3 y4 y5 y6 y7)) ∧ (∀ y0 y1 y2 y3 y4 y5 y6, LeO (mapmakerref14_Users.l2 k y0 y1 y2 y3 y4 y5 y6) (mapmakerref14_Users.l2 (k + 1) y0 y1 y2 y3 y4 y5 y6)) ∧ (∀ y0 y1 y2 y3 y4 y5 y6 y7, LeO (mapmakerref14_Users.l3 k y0 y1 y2 y3 y4 y5 y6 y7) (mapmakerref14_Users.l3 (k + 1) y0 y1 y2 y3 y4 y5 y6 y7))
 | 0 => ⟨fun _ _ _ _ _ _ _ r h => by simp [mapmakerref14_Users.l0] at h, fun _ _ _ _ _ _ _ _ r h => by simp [mapmakerref14_Users.j1] at h, fun _ _ _ _ _ _ _ _ r h => by simp [mapmakerref14_Users.l1] at h, fun _ _ _ _ _ _ _ r h => by simp [mapmakerref14_Users.l2] at h, fun _ _ _ _ _ _ _ _ r h => by simp [mapmakerref14_Users.l3] at h⟩
 | k + 1 => by
  obtain ⟨ih0, ih1, ih2, ih3, ih4⟩ := mapmakerref14_Users.mono_l k
  refine ⟨?_, ?_, ?_, ?_, ?_⟩
  ·intro y0 y1 y2 y3 y4 y5 y6
   unfold mapmakerref14_Users.l0
   repeat' first
   | (with_reducible exact ih0 _ _ _ _ _ _ _)
   | (with_reducible exact ih1 _ _ _ _ _ _ _ _)
   | (with_reducible exact ih2 _ _ _ _ _ _ _ _)
   | (with_reducible exact ih3 _ _ _ _ _ _ _)
   | (with_reducible exact ih4 _ _ _ _ _ _ _ _)
   | (with_reducible exact mapmakerref14_With.mono _ _ _ _)
   | (with_reducible exact LeO.refl _)
   | (with_reducible exact LeO.none _)
   | (with_reducible refine LeO.ite ?_ ?_)
   | (with_reducible refine LeO.bind ?_ (fun _ => ?_))
   | exact ih0 _ _ _ _ _ _ _
   | exact ih1 _ _ _ _ _ _ _ _
   | exact ih2 _ _ _ _ _ _ _ _
   | exact ih3 _ _ _ _ _ _ _
   | exact ih4 _ _ _ _ _ _ _ _
   | exact mapmakerref14_With.mono _ _ _ _
   | exact LeO.none _
   | refine LeO.ite ?_ ?_
   | refine LeO.bind ?_ (fun _ => ?_)
  ·intro y0 y1 y2 y3 y4 y5 y6 y7
   unfold mapmakerref14_Users.j1
   repeat' first
   | (with_reducible exact ih0 _ _ _ _ _ _ _)
   | (with_reducible exact ih1 _ _ _ _ _ _ _ _)
   | (with_reducible exact ih2 _ _ _ _ _ _ _ _)
   | (with_reducible exact ih3 _ _ _ _ _ _ _)
   | (with_reducible exact ih4 _ _ _ _ _ _ _ _)
   | (with_reducible exact mapmakerref14_With.mono _ _ _ _)
   | (with_reducible exact LeO.refl _)
   | (with_reducible exact LeO.none _)
   | (with_reducible refine LeO.ite ?_ ?_)
   | (with_reducible refine LeO.bind ?_ (fun _ => ?_))
   | exact ih0 _ _ _ _ _ _ _
   | exact ih1 _ _ _ _ _ _ _ _
   | exact ih2 _ _ _ _ _ _ _ _
   | exact ih3 _ _ _ _ _ _ _
   | exact ih4 _ _ _ _ _ _ _ _
   | exact mapmakerref14_With.mono _ _ _ _
   | exact LeO.none _
   | refine LeO.ite ?_ ?_
   | refine LeO.bind ?_ (fun _ => ?_)
  ·intro y0 y1 y2 y3 y4 y5 y6 y7
   unfold mapmakerref14_Users.l1
   repeat' first
   | (with_reducible exact ih0 _ _ _ _ _ _ _)
   | (with_reducible exact ih1 _ _ _ _ _ _ _ _)
   | (with_reducible exact ih2 _ _ _ _ _ _ _ _)
   | (with_reducible exact ih3 _ _ _ _ _ _ _)
   | (with_reducible exact ih4 _ _ _ _ _ _ _ _)
   | (with_reducible exact mapmakerref14_With.mono _ _ _ _)
   | (with_reducible exact LeO.refl _)
   | (with_reducible exact LeO.none _)
   | (with_reducible refine LeO.ite ?_ ?_)
   | (with_reducible refine LeO.bind ?_ (fun _ => ?_))
   | exact ih0 _ _ _ _ _ _ _
   | exact ih1 _ _ _ _ _ _ _ _
   | exact ih2 _ _ _ _ _ _ _ _
   | exact ih3 _ _ _ _ _ _ _
   | exact ih4 _ _ _ _ _ _ _ _
   | exact mapmakerref14_With.mono _ _ _ _
   | exact LeO.none _
   | refine LeO.ite ?_ ?_
   | refine LeO.bind ?_ (fun _ => ?_)
  ·intro y0 y1 y2 y3 y4 y5 y6
   unfold mapmakerref14_Users.l2
   repeat' first
   | (with_reducible exact ih0 _ _ _ _ _ _ _)
   | (with_reducible exact ih1 _ _ _ _ _ _ _ _)
   | (with_reducible exact ih2 _ _ _ _ _ _ _ _)
   | (with_reducible exact ih3 _ _ _ _ _ _ _)
   | (with_reducible exact ih4 _ _ _ _ _ _ _ _)
   | (with_reducible exact mapmakerref14_With.mono _ _ _ _)
   | (with_reducible exact LeO.refl _)
   | (with_reducible exact LeO.none _)
   | (with_reducible refine LeO.ite ?_ ?_)
   | (with_reducible refine LeO.bind ?_ (fun _ => ?_))
   | exact ih0 _ _ _ _ _ _ _
   | exact ih1 _ _ _ _ _ _ _ _
   | exact ih2 _ _ _ _ _ _ _ _
   | exact ih3 _ _ _ _ _ _ _
   | exact ih4 _ _ _ _ _ _ _ _
   | exact mapmakerref14_With.mono _ _ _ _
   | exact LeO.none _
   | refine LeO.ite ?_ ?_
   | refine LeO.bind ?_ (fun _ => ?_)
  ·intro y0 y1 y2 y3 y4 y5 y6 y7
   unfold mapmakerref14_Users.l3
   repeat' first
   | (with_reducible exact ih0 _ _ _ _ _ _ _)
   | (with_reducible exact ih1 _ _ _ _ _ _ _ _)
   | (with_reducible exact ih2 _ _ _ _ _ _ _ _)
   | (with_reducible exact ih3 _ _ _ _ _ _ _)
   | (with_reducible exact ih4 _ _ _ _ _ _ _ _)
   | (with_reducible exact mapmakerref14_With.mono _ _ _ _)
   | (with_reducible exact LeO.refl _)
   | (with_reducible exact LeO.none _)
   | (with_reducible refine LeO.ite ?_ ?_)
   | (with_reducible refine LeO.bind ?_ (fun _ => ?_))
   | exact ih0 _ _ _ _ _ _ _
   | exact ih1 _ _ _ _ _ _ _ _
   | exact ih2 _ _ _ _ _ _ _ _
   | exact ih3 _ _ _ _ _ _ _
   | exact ih4 _ _ _ _ _ _ _ _
   | exact mapmakerref14_With.mono _ _ _ _
   | exact LeO.none _
   | refine LeO.ite ?_ ?_
   | refine LeO.bind ?_ (fun _ => ?_)
theorem mapmakerref14_Users.mono : ∀ a0 a1 a2 a3 a4 k, LeO (mapmakerref14_Users.f k a0 a1 a2 a3 a4) (mapmakerref14_Users.f (k + 1) a0 a1 a2 a3 a4) := by
 intro a0 a1 a2 a3 a4 k
 obtain ⟨ih0, ih1, ih2, ih3, ih4⟩ := mapmakerref14_Users.mono_l k
 unfold mapmakerref14_Users.f
 repeat' first
   | (with_reducible exact ih0 _ _ _ _ _ _ _)
   | (with_reducible exact ih1 _ _ _ _ _ _ _ _)
   | (with_reducible exact ih2 _ _ _ _ _ _ _ _)
   | (with_reducible exact ih3 _ _ _ _ _ _ _)
   | (with_reducible exact ih4 _ _ _ _ _ _ _ _)
   | (with_reducible exact mapmakerref14_With.mono _ _ _ _)
   | (with_reducible exact LeO.refl _)
   | (with_reducible exact LeO.none _)
   | (with_reducible refine LeO.ite ?_ ?_)
   | (with_reducible refine LeO.bind ?_ (fun _ => ?_))
   | exact ih0 _ _ _ _ _ _ _
   | exact ih1 _ _ _ _ _ _ _ _
   | exact ih2 _ _ _ _ _ _ _ _
   | exact ih3 _ _ _ _ _ _ _
   | exact ih4 _ _ _ _ _ _ _ _
   | exact mapmakerref14_With.mono _ _ _ _
   | exact LeO.none _
   | refine LeO.ite ?_ ?_
   | refine LeO.bind ?_ (fun _ => ?_)
set_option maxHeartbeats 8000000 in
set_option maxRecDepth 100000 in
theorem mapmakerref14_Users.calls (k : Nat) (A0_0 : Option Addr) (c0_0 : Nat) (l0_0 : List (S39)) (A0_1 : Option Addr) (c0_1 : Nat) (l0_1 : List (S45)) (A0_2 : Option Addr) (c0_2 : Nat) (l0_2 : List (S51)) (a1_0 : Int) (a1_1 : Int) (r : List (S34)) (w : World) (hr0_0 : Kd.C k39 w A0_0 l0_0.length l0_0) (hc0_0 : l0_0.length ≤ c0_0) (hr0_1 : Kd.C k45 w A0_1 l0_1.length l0_1) (hc0_1 : l0_1.length ≤ c0_1) (hr0_2 : Kd.C k51 w A0_2 l0_2.length l0_2) (hc0_2 : l0_2.length ≤ c0_2) (h : mapmakerref14_Users.f k l0_0 l0_1 l0_2 a1_0 a1_1 = some r) :
  Calls Try.prog 25 #[.agg #[.slice A0_0 l0_0.length c0_0, .slice A0_1 l0_1.length c0_1, .slice A0_2 l0_2.length c0_2], .agg #[.int .i64 a1_0, .int .i64 a1_1]] w fun e w' => ∃ v0_ : Value, e = .returned (v0_) ∧ Kd.R k34 34 w' w.heap.size (fun _ => True) v0_ r ∧ Below w.heap.size w w' := by
 have hu26 := Try.underlying26
 have hu34 := Try.underlying34
 have HR0_0 := aM hr0_0
 have HC0_0 := aM hc0_0
 clear hr0_0 hc0_0
 have HR0_1 := aM hr0_1
 have HC0_1 := aM hc0_1
 clear hr0_1 hc0_1
 have HR0_2 := aM hr0_2
 have HC0_2 := aM hc0_2
 clear hr0_2 hc0_2
 have HB := aM (Below.refl w.heap.size w)
 have H : (mapmakerref14_Users.l0 k ([] : List (S34)) 0 l0_0 l0_1 l0_2 a1_0 a1_1) = some r := h
 clear h
 have H' := aM H
 clear H
 go_enter Try.func25, Try.ntmps25
 go_wp2_with (first | ((with_reducible refine gate_dst (N := 2) rfl ?_); refine bx (N := 2) (cs := #[.slice A0_0 l0_0.length c0_0, .slice A0_1 l0_1.length c0_1, .slice A0_2 l0_2.length c0_2]) (t := 26) ?_; intro gb362 hg w3 hbox hb; have n0_ := aM (bS (bl) hb); have n1_ := aM (hbox); have n3_ := aM (gw (w := w) hg); (try clear HB); have HB := n0_; have BK362 := n1_; have GE362 := n3_; clear n0_ n1_ n3_ hb hbox hg) | ((with_reducible refine gate_dst (N := 3) rfl ?_); refine bx (N := 3) (cs := #[.int .i64 a1_0, .int .i64 a1_1]) (t := 34) ?_; intro gb363 hg w4 hbox hb; have n0_ := aM (kB (kl BK362) hb); have n1_ := aM (bS (bl) hb); have n2_ := aM (hbox); have n4_ := aM (gw (w := w) hg); have n5_ := aM (nb BK362 hg); have n6_ := aM (nb BK362 hg).symm; (try clear BK362); (try clear HB); have BK362 := n0_; have HB := n1_; have BK363 := n2_; have GE363 := n4_; have NB362_363 := n5_; have NB363_362 := n6_; clear n0_ n1_ n2_ n4_ n5_ n6_ hb hbox hg))
 repeat (go_quiet (first | ((with_reducible refine gate_dst (N := 2) rfl ?_); refine bx (N := 2) (cs := #[.slice A0_0 l0_0.length c0_0, .slice A0_1 l0_1.length c0_1, .slice A0_2 l0_2.length c0_2]) (t := 26) ?_; intro gb362 hg w3 hbox hb; have n0_ := aM (bS (bl) hb); have n1_ := aM (hbox); have n3_ := aM (gw (w := w) hg); (try clear HB); have HB := n0_; have BK362 := n1_; have GE362 := n3_; clear n0_ n1_ n3_ hb hbox hg) | ((with_reducible refine gate_dst (N := 3) rfl ?_); refine bx (N := 3) (cs := #[.int .i64 a1_0, .int .i64 a1_1]) (t := 34) ?_; intro gb363 hg w4 hbox hb; have n0_ := aM (kB (kl BK362) hb); have n1_ := aM (bS (bl) hb); have n2_ := aM (hbox); have n4_ := aM (gw (w := w) hg); have n5_ := aM (nb BK362 hg); have n6_ := aM (nb BK362 hg).symm; (try clear BK362); (try clear HB); have BK362 := n0_; have HB := n1_; have BK363 := n2_; have GE363 := n4_; have NB362_363 := n5_; have NB363_362 := n6_; clear n0_ n1_ n2_ n4_ n5_ n6_ hb hbox hg)); try go_wp2_with (first | ((with_reducible refine gate_dst (N := 2) rfl ?_); refine bx (N := 2) (cs := #[.slice A0_0 l0_0.length c0_0, .slice A0_1 l0_1.length c0_1, .slice A0_2 l0_2.length c0_2]) (t := 26) ?_; intro gb362 hg w3 hbox hb; have n0_ := aM (bS (bl) hb); have n1_ := aM (hbox); have n3_ := aM (gw (w := w) hg); (try clear HB); have HB := n0_; have BK362 := n1_; have GE362 := n3_; clear n0_ n1_ n3_ hb hbox hg) | ((with_reducible refine gate_dst (N := 3) rfl ?_); refine bx (N := 3) (cs := #[.int .i64 a1_0, .int .i64 a1_1]) (t := 34) ?_; intro gb363 hg w4 hbox hb; have n0_ := aM (kB (kl BK362) hb); have n1_ := aM (bS (bl) hb); have n2_ := aM (hbox); have n4_ := aM (gw (w := w) hg); have n5_ := aM (nb BK362 hg); have n6_ := aM (nb BK362 hg).symm; (try clear BK362); (try clear HB); have BK362 := n0_; have HB := n1_; have BK363 := n2_; have GE363 := n4_; have NB362_363 := n5_; have NB363_362 := n6_; clear n0_ n1_ n2_ n4_ n5_ n6_ hb hbox hg)))
 go_loopg [5, 6] k (fun kq v5 v6 w' => ∃ (x5_1 : List (S34)) (x6_1 : Int), v6 = .int .i64 x6_1 ∧ Aside0 (mapmakerref14_Users.l0 kq x5_1 x6_1 l0_0 l0_1 l0_2 a1_0 a1_1 = some r) ∧ Aside0 (kq ≤ k) ∧ Aside0 (Kd.R k34 34 w' w.heap.size (fun k_ => k_ ≠ gb363) v5 x5_1) ∧ Aside0 (w'.heap[gb362]? = some (.cells #[(.slice A0_0 l0_0.length c0_0), (.slice A0_1 l0_1.length c0_1), (.slice A0_2 l0_2.length c0_2)] 26 (0, 0))) ∧ Aside0 (w'.heap[gb363]? = some (.cells #[.int .i64 a1_0, .int .i64 a1_1] 34 (0, 0))) ∧ Aside0 (Below w.heap.size w w'))
 case atStart => exact ⟨(([] : List (S34))), (0), (by first | rfl | (simp; done) | (simp [*]; done)), H', ⟨Nat.le_refl _⟩, ⟨by first | exact Kd.R_nil _ _ _ _ _ | exact Kd.N_nil _ _ _ _ _ | exact Kd.V_nil _ _ _ _ _ | exact Kd.Q_nil _ _ _ _ _ | exact Kd.S_nil _ _ _ _ _⟩, ⟨by (with_reducible repeat (first | refine kN ?_ _ | refine kD ?_ | refine kA ?_ _)); exact BK362.out⟩, ⟨by (with_reducible repeat (first | refine kN ?_ _ | refine kD ?_ | refine kA ?_ _)); exact BK363.out⟩, ⟨bl⟩⟩
 case round =>
  clear H'
  try clear c2
  try clear p2
  obtain ⟨x5_1, x6_1, rfl, HA, HK1, HO_5, BK362, BK363, HB⟩ := hrel
  cases gk with
  | zero => exact absurd HA.out (by simp [mapmakerref14_Users.l0])
  | succ k1 =>
   have H := HA.out
   clear HA
   simp only [mapmakerref14_Users.l0] at H
   have HC5 := aM H
   clear H
   go_upto_region 3 with (fail)
   repeat (go_quiet (fail); go_upto_region 3 with (fail))
   go_cut [19] (fun v19 wc => ∃ (kq : Nat) (x19_4 : Bool), v19 = .bool x19_4 ∧ Aside0 (mapmakerref14_Users.j1 kq x5_1 x6_1 x19_4 l0_0 l0_1 l0_2 a1_0 a1_1 = some r) ∧ Aside0 (kq ≤ k1) ∧ Aside0 (Kd.R k34 34 wc w.heap.size (fun k_ => k_ ≠ gb363) u5 x5_1) ∧ Aside0 (wc.heap[gb362]? = some (.cells #[(.slice A0_0 l0_0.length c0_0), (.slice A0_1 l0_1.length c0_1), (.slice A0_2 l0_2.length c0_2)] 26 (0, 0))) ∧ Aside0 (wc.heap[gb363]? = some (.cells #[.int .i64 a1_0, .int .i64 a1_1] 34 (0, 0))) ∧ Aside0 (Below w.heap.size w wc))
   case first =>
    have H := HC5.out
    clear HC5
    by_cases c6 : x6_1 < (l0_1.length : Int)
    ·rw [if_pos c6] at H
     have c6b0 : decide (x6_1 < (l0_1.length : Int)) = true := decide_eq_true c6
     clear c6
     (first | rw [c6b0] | (simp only [i64_w, i32_w]; rw [c6b0]) | skip)
     have H' := aM H
     clear H
     have hnb7 := NB362_363.out
     have hnc7 := NB363_362.out
     obtain ⟨hcz8_0, hcz8_1, hcz8_2, hfz8_0, hfz8_1, hfz8_2⟩ := bc3 BK362
     obtain ⟨hcz9_0, hcz9_1, hfz9_0, hfz9_1⟩ := bc2 BK363
     go_wp2
     repeat (go_quiet (fail); try go_wp2)
     go_meet
     case rel => exact ⟨_, ((a1_0 == 1)), (by first | rfl | (simp; done) | (simp [*]; done)), H', ⟨by have := HK1.out; first | omega | exact Nat.le_refl _⟩, ⟨by (with_reducible repeat (first | apply rA | apply rN | apply rD)); exact HO_5.out⟩, ⟨by (with_reducible repeat (first | refine kN ?_ _ | refine kD ?_ | refine kA ?_ _)); exact BK362.out⟩, ⟨by (with_reducible repeat (first | refine kN ?_ _ | refine kD ?_ | refine kA ?_ _)); exact BK363.out⟩, ⟨bl⟩⟩
    ·rw [if_neg c6] at H
     have c6b0 : decide (x6_1 < (l0_1.length : Int)) = false := decide_eq_false c6
     clear c6
     (first | rw [c6b0] | (simp only [i64_w, i32_w]; rw [c6b0]) | skip)
     have H' := aM H
     clear H
     have hnb10 := NB362_363.out
     have hnc10 := NB363_362.out
     obtain ⟨hcz11_0, hcz11_1, hcz11_2, hfz11_0, hfz11_1, hfz11_2⟩ := bc3 BK362
     go_wp2
     repeat (go_quiet (fail); try go_wp2)
     go_meet
     case rel => exact ⟨_, (false), (by first | rfl | (simp; done) | (simp [*]; done)), H', ⟨by have := HK1.out; first | omega | exact Nat.le_refl _⟩, ⟨by (with_reducible repeat (first | apply rA | apply rN | apply rD)); exact HO_5.out⟩, ⟨by (with_reducible repeat (first | refine kN ?_ _ | refine kD ?_ | refine kA ?_ _)); exact BK362.out⟩, ⟨by (with_reducible repeat (first | refine kN ?_ _ | refine kD ?_ | refine kA ?_ _)); exact BK363.out⟩, ⟨bl⟩⟩
   case rest =>
    clear HC5
    try clear c1
    try clear c2
    try clear p2
    try clear c6
    try clear c6b0
    try clear c7
    try clear c10
    try clear hcz11_0 hcz11_1 hcz11_2 hfz11_0 hfz11_1 hfz11_2
    try clear hcz8_0 hcz8_1 hcz8_2 hfz8_0 hfz8_1 hfz8_2
    try clear hcz9_0 hcz9_1 hfz9_0 hfz9_1
    try clear p2
    obtain ⟨kq, x19_4, rfl, HA, HJ4, HO_5, BK362, BK363, HB⟩ := hcut
    cases kq with
    | zero => exact absurd HA.out (by simp [mapmakerref14_Users.j1])
    | succ kj4 =>
     have H := HA.out
     clear HA
     simp only [mapmakerref14_Users.j1] at H
     by_cases c12 : x19_4 = true
     ·subst c12
      have H1 : (mapmakerref14_Users.l1 kj4 x5_1 x6_1 0 l0_0 l0_1 l0_2 a1_0 a1_1) = some r := by rw [if_pos rfl] at H; exact H
      clear H
      have H := H1
      clear H1
      have H' := aM H
      clear H
      go_wp2
      repeat (go_quiet (fail); try go_wp2)
      go_loopg [5, 7] kj4 (fun kq v5 v7 w' => ∃ (x5_3 : List (S34)) (x7_3 : Int), v7 = .int .i64 x7_3 ∧ Aside0 (mapmakerref14_Users.l1 kq x5_3 x6_1 x7_3 l0_0 l0_1 l0_2 a1_0 a1_1 = some r) ∧ Aside0 (kq ≤ kj4) ∧ Aside0 (Kd.R k34 34 w' w.heap.size (fun k_ => k_ ≠ gb363) v5 x5_3) ∧ Aside0 (w'.heap[gb362]? = some (.cells #[(.slice A0_0 l0_0.length c0_0), (.slice A0_1 l0_1.length c0_1), (.slice A0_2 l0_2.length c0_2)] 26 (0, 0))) ∧ Aside0 (w'.heap[gb363]? = some (.cells #[.int .i64 a1_0, .int .i64 a1_1] 34 (0, 0))) ∧ Aside0 (Below w.heap.size w w'))
      case atStart => exact ⟨(x5_1), (0), (by first | rfl | (simp; done) | (simp [*]; done)), H', ⟨Nat.le_refl _⟩, ⟨by (with_reducible repeat (first | apply rA | apply rN | apply rD)); exact HO_5.out⟩, ⟨by (with_reducible repeat (first | refine kN ?_ _ | refine kD ?_ | refine kA ?_ _)); exact BK362.out⟩, ⟨by (with_reducible repeat (first | refine kN ?_ _ | refine kD ?_ | refine kA ?_ _)); exact BK363.out⟩, ⟨bl⟩⟩
      case round =>
       clear H'
       try clear c1
       try clear c2
       try clear p2
       try clear c6
       try clear c6b0
       try clear c7
       try clear c10
       try clear c12
       try clear hcz11_0 hcz11_1 hcz11_2 hfz11_0 hfz11_1 hfz11_2
       try clear hcz8_0 hcz8_1 hcz8_2 hfz8_0 hfz8_1 hfz8_2
       try clear hcz9_0 hcz9_1 hfz9_0 hfz9_1
       try clear p2
       obtain ⟨x5_3, x7_3, rfl, HA, HK3, HO_5, BK362, BK363, HB⟩ := hrel
       cases gk with
       | zero => exact absurd HA.out (by simp [mapmakerref14_Users.l1])
       | succ k3 =>
        have H := HA.out
        clear HA
        simp only [mapmakerref14_Users.l1] at H
        by_cases c13 : 0 ≤ x6_1
        ·rw [if_pos c13] at H
         have c13b0 : decide (0 ≤ x6_1) = true := decide_eq_true c13
         clear c13
         by_cases c14 : x6_1 < (l0_1.length : Int)
         ·rw [if_pos c14] at H
          have c14b0 : decide (x6_1 < (l0_1.length : Int)) = true := decide_eq_true c14
          clear c14
          by_cases c15 : x7_3 < (((rd_T45 l0_1 x6_1).f1).length : Int)
          ·rw [if_pos c15] at H
           have c15b0 : decide (x7_3 < (((rd_T45 l0_1 x6_1).f1).length : Int)) = true := decide_eq_true c15
           clear c15
           by_cases c16 : 0 ≤ x7_3
           ·rw [if_pos c16] at H
            have c16b0 : decide (0 ≤ x7_3) = true := decide_eq_true c16
            clear c16
            by_cases c17 : (rd ((rd_T45 l0_1 x6_1).f1) x7_3) = a1_1
            ·rw [if_pos c17] at H
             have c17b0 : ((rd ((rd_T45 l0_1 x6_1).f1) x7_3) == a1_1) = true := beq_iff_eq.mpr c17
             have c17b1 : ((rd ((rd_T45 l0_1 x6_1).f1) x7_3) != a1_1) = false := bne_eq_false_iff_eq.mpr c17
             clear c17
             replace H := Option.bind_eq_some_iff.mp H
             obtain ⟨t368, A180, H⟩ := H
             try dsimp only at H
             have A18 := aM A180
             clear A180
             have H' := aM H
             clear H
             have hnb19 := NB362_363.out
             have hnc19 := NB363_362.out
             obtain ⟨hcz20_0, hcz20_1, hcz20_2, hfz20_0, hfz20_1, hfz20_2⟩ := bc3 BK362
             have p364 : 0 ≤ (x6_1 : Int) := oT
             have q364 : x6_1 < (l0_1.length : Int) := oT
             obtain ⟨ad364, A364_1, c364_1, A364_2, c364_2, e364, hx364_0, hx364_1, hx364_2, hl364_1, hi364_1, hl364_2, hi364_2⟩ := at_T45 HR0_1.out x6_1 p364 q364
             cases e364
             replace hx364_0 := hs HB.out hx364_0
             replace hx364_1 := hs HB.out hx364_1
             replace hx364_2 := hs HB.out hx364_2
             have HR364_1 := aM hi364_1
             have HC364_1 := aM hl364_1
             clear hi364_1 hl364_1
             have HR364_2 := aM hi364_2
             have HC364_2 := aM hl364_2
             clear hi364_2 hl364_2
             replace p364 := eq_true p364
             replace q364 := eq_true q364
             have p365 : 0 ≤ (x6_1 : Int) := oT
             have q365 : x6_1 < (l0_1.length : Int) := oT
             obtain ⟨ad365, A365_1, c365_1, A365_2, c365_2, e365, hx365_0, hx365_1, hx365_2, hl365_1, hi365_1, hl365_2, hi365_2⟩ := at_T45 HR0_1.out x6_1 p365 q365
             obtain rfl : ad364 = ad365 := (by injection e365)
             replace hx365_0 := hs HB.out hx365_0
             replace hx365_1 := hs HB.out hx365_1
             replace hx365_2 := hs HB.out hx365_2
             have HR365_1 := aM hi365_1
             have HC365_1 := aM hl365_1
             clear hi365_1 hl365_1
             have HR365_2 := aM hi365_2
             have HC365_2 := aM hl365_2
             clear hi365_2 hl365_2
             replace p365 := eq_true p365
             replace q365 := eq_true q365
             have ea_ := Option.some.inj (hx364_1.symm.trans hx365_1)
             injection ea_ with ea_ en_ ec_
             subst ea_
             subst ec_
             clear en_
             have ea_ := Option.some.inj (hx364_2.symm.trans hx365_2)
             injection ea_ with ea_ en_ ec_
             subst ea_
             subst ec_
             clear en_
             have p366 : 0 ≤ (x7_3 : Int) := oT
             have q366 : x7_3 < (((rd_T45 l0_1 x6_1).f1).length : Int) := oT
             obtain ⟨ad366, e366, hx366_0⟩ := Kd.at_int HR365_1.out x7_3 p366 q366
             cases e366
             replace hx366_0 := hs HB.out hx366_0
             replace p366 := eq_true p366
             replace q366 := eq_true q366
             obtain ⟨hcz21_0, hcz21_1, hfz21_0, hfz21_1⟩ := bc2 BK363
             have p367 : 0 ≤ (x6_1 : Int) := oT
             have q367 : x6_1 < (l0_1.length : Int) := oT
             obtain ⟨ad367, A367_1, c367_1, A367_2, c367_2, e367, hx367_0, hx367_1, hx367_2, hl367_1, hi367_1, hl367_2, hi367_2⟩ := at_T45 HR0_1.out x6_1 p367 q367
             obtain rfl : ad364 = ad367 := (by injection e367)
             replace hx367_0 := hs HB.out hx367_0
             replace hx367_1 := hs HB.out hx367_1
             replace hx367_2 := hs HB.out hx367_2
             have HR367_1 := aM hi367_1
             have HC367_1 := aM hl367_1
             clear hi367_1 hl367_1
             have HR367_2 := aM hi367_2
             have HC367_2 := aM hl367_2
             clear hi367_2 hl367_2
             replace p367 := eq_true p367
             replace q367 := eq_true q367
             have ea_ := Option.some.inj (hx364_1.symm.trans hx367_1)
             injection ea_ with ea_ en_ ec_
             subst ea_
             subst ec_
             clear en_
             have ea_ := Option.some.inj (hx364_2.symm.trans hx367_2)
             injection ea_ with ea_ en_ ec_
             subst ea_
             subst ec_
             clear en_
             obtain ⟨Ao22, co22, eo22⟩ := Kd.R_slice HO_5.out
             subst eo22
             go_wp2_with (first | (go_at_call 59; (with_reducible refine (mapmakerref14_With.calls k3 _ _ x5_3 2 ((rd_T45 l0_1 x6_1).f0) t368 _ ?side1 ?side2 A18.out).mono ?_); (case side1 => repeat (first | exact (rR HO_5.out).2.2 | (with_reducible refine cA ?_ _) | (with_reducible refine cN ?_ _) | (with_reducible refine cD ?_))); (case side2 => exact (rR HO_5.out).2.1); rintro e w23 ⟨v369, rfl, ho0, hb⟩; have HO370 := aM (Kd.R_lower (Kd.R_newB (Kd.R_new' ho0 (Kd.R_lt (rl HO_5))) (kl BK363)) (below_size (bl))); replace HO_5 := aM (rE (rl HO_5) (Kd.R_base ho0) hb); replace BK362 := aM (kB (kl BK362) hb); replace BK363 := aM (kB (kl BK363) hb); replace HB := aM (bS (bl) hb); (try clear hb); (try clear ho0)))
             repeat (go_quiet (first | (go_at_call 59; (with_reducible refine (mapmakerref14_With.calls k3 _ _ x5_3 2 ((rd_T45 l0_1 x6_1).f0) t368 _ ?side1 ?side2 A18.out).mono ?_); (case side1 => repeat (first | exact (rR HO_5.out).2.2 | (with_reducible refine cA ?_ _) | (with_reducible refine cN ?_ _) | (with_reducible refine cD ?_))); (case side2 => exact (rR HO_5.out).2.1); rintro e w23 ⟨v369, rfl, ho0, hb⟩; have HO370 := aM (Kd.R_lower (Kd.R_newB (Kd.R_new' ho0 (Kd.R_lt (rl HO_5))) (kl BK363)) (below_size (bl))); replace HO_5 := aM (rE (rl HO_5) (Kd.R_base ho0) hb); replace BK362 := aM (kB (kl BK362) hb); replace BK363 := aM (kB (kl BK363) hb); replace HB := aM (bS (bl) hb); (try clear hb); (try clear ho0))); try go_wp2_with (first | (go_at_call 59; (with_reducible refine (mapmakerref14_With.calls k3 _ _ x5_3 2 ((rd_T45 l0_1 x6_1).f0) t368 _ ?side1 ?side2 A18.out).mono ?_); (case side1 => repeat (first | exact (rR HO_5.out).2.2 | (with_reducible refine cA ?_ _) | (with_reducible refine cN ?_ _) | (with_reducible refine cD ?_))); (case side2 => exact (rR HO_5.out).2.1); rintro e w23 ⟨v369, rfl, ho0, hb⟩; have HO370 := aM (Kd.R_lower (Kd.R_newB (Kd.R_new' ho0 (Kd.R_lt (rl HO_5))) (kl BK363)) (below_size (bl))); replace HO_5 := aM (rE (rl HO_5) (Kd.R_base ho0) hb); replace BK362 := aM (kB (kl BK362) hb); replace BK363 := aM (kB (kl BK363) hb); replace HB := aM (bS (bl) hb); (try clear hb); (try clear ho0))))
             go_roundg k3
             case measure => have := HK1.out; have := HJ4.out; have := HK3.out; omega
             case rel => exact ⟨(t368), (wrap64 (x7_3 + 1)), (by first | rfl | (simp; done) | (simp [*]; done)), H', ⟨by have := HK1.out; have := HJ4.out; have := HK3.out; omega⟩, ⟨by (with_reducible repeat (first | apply rA | apply rN | apply rD)); exact rM HO370.out (fun _ hk => hk.2)⟩, ⟨by (with_reducible repeat (first | refine kN ?_ _ | refine kD ?_ | refine kA ?_ _)); exact BK362.out⟩, ⟨by (with_reducible repeat (first | refine kN ?_ _ | refine kD ?_ | refine kA ?_ _)); exact BK363.out⟩, ⟨bl⟩⟩
            ·rw [if_neg c17] at H
             have c17b0 : ((rd ((rd_T45 l0_1 x6_1).f1) x7_3) == a1_1) = false := beq_eq_false_iff_ne.mpr c17
             have c17b1 : ((rd ((rd_T45 l0_1 x6_1).f1) x7_3) != a1_1) = true := bne_iff_ne.mpr c17
             have H' := aM H
             clear H
             have hnb24 := NB362_363.out
             have hnc24 := NB363_362.out
             obtain ⟨hcz25_0, hcz25_1, hcz25_2, hfz25_0, hfz25_1, hfz25_2⟩ := bc3 BK362
             have p364 : 0 ≤ (x6_1 : Int) := oT
             have q364 : x6_1 < (l0_1.length : Int) := oT
             obtain ⟨ad364, A364_1, c364_1, A364_2, c364_2, e364, hx364_0, hx364_1, hx364_2, hl364_1, hi364_1, hl364_2, hi364_2⟩ := at_T45 HR0_1.out x6_1 p364 q364
             cases e364
             replace hx364_0 := hs HB.out hx364_0
             replace hx364_1 := hs HB.out hx364_1
             replace hx364_2 := hs HB.out hx364_2
             have HR364_1 := aM hi364_1
             have HC364_1 := aM hl364_1
             clear hi364_1 hl364_1
             have HR364_2 := aM hi364_2
             have HC364_2 := aM hl364_2
             clear hi364_2 hl364_2
             replace p364 := eq_true p364
             replace q364 := eq_true q364
             have p365 : 0 ≤ (x6_1 : Int) := oT
             have q365 : x6_1 < (l0_1.length : Int) := oT
             obtain ⟨ad365, A365_1, c365_1, A365_2, c365_2, e365, hx365_0, hx365_1, hx365_2, hl365_1, hi365_1, hl365_2, hi365_2⟩ := at_T45 HR0_1.out x6_1 p365 q365
             obtain rfl : ad364 = ad365 := (by injection e365)
             replace hx365_0 := hs HB.out hx365_0
             replace hx365_1 := hs HB.out hx365_1
             replace hx365_2 := hs HB.out hx365_2
             have HR365_1 := aM hi365_1
             have HC365_1 := aM hl365_1
             clear hi365_1 hl365_1
             have HR365_2 := aM hi365_2
             have HC365_2 := aM hl365_2
             clear hi365_2 hl365_2
             replace p365 := eq_true p365
             replace q365 := eq_true q365
             have ea_ := Option.some.inj (hx364_1.symm.trans hx365_1)
             injection ea_ with ea_ en_ ec_
             subst ea_
             subst ec_
             clear en_
             have ea_ := Option.some.inj (hx364_2.symm.trans hx365_2)
             injection ea_ with ea_ en_ ec_
             subst ea_
             subst ec_
             clear en_
             have p366 : 0 ≤ (x7_3 : Int) := oT
             have q366 : x7_3 < (((rd_T45 l0_1 x6_1).f1).length : Int) := oT
             obtain ⟨ad366, e366, hx366_0⟩ := Kd.at_int HR365_1.out x7_3 p366 q366
             cases e366
             replace hx366_0 := hs HB.out hx366_0
             replace p366 := eq_true p366
             replace q366 := eq_true q366
             obtain ⟨hcz26_0, hcz26_1, hfz26_0, hfz26_1⟩ := bc2 BK363
             go_wp2
             repeat (go_quiet (fail); try go_wp2)
             go_roundg k3
             case measure => have := HK1.out; have := HJ4.out; have := HK3.out; omega
             case rel => exact ⟨(x5_3), (wrap64 (x7_3 + 1)), (by first | rfl | (simp; done) | (simp [*]; done)), H', ⟨by have := HK1.out; have := HJ4.out; have := HK3.out; omega⟩, ⟨by (with_reducible repeat (first | apply rA | apply rN | apply rD)); exact HO_5.out⟩, ⟨by (with_reducible repeat (first | refine kN ?_ _ | refine kD ?_ | refine kA ?_ _)); exact BK362.out⟩, ⟨by (with_reducible repeat (first | refine kN ?_ _ | refine kD ?_ | refine kA ?_ _)); exact BK363.out⟩, ⟨bl⟩⟩
           ·rw [if_neg c16] at H
            exact absurd H (by simp)
          ·rw [if_neg c15] at H
           have c15b0 : decide (x7_3 < (((rd_T45 l0_1 x6_1).f1).length : Int)) = false := decide_eq_false c15
           clear c15
           have H' := aM H
           clear H
           have hnb27 := NB362_363.out
           have hnc27 := NB363_362.out
           obtain ⟨hcz28_0, hcz28_1, hcz28_2, hfz28_0, hfz28_1, hfz28_2⟩ := bc3 BK362
           have p364 : 0 ≤ (x6_1 : Int) := oT
           have q364 : x6_1 < (l0_1.length : Int) := oT
           obtain ⟨ad364, A364_1, c364_1, A364_2, c364_2, e364, hx364_0, hx364_1, hx364_2, hl364_1, hi364_1, hl364_2, hi364_2⟩ := at_T45 HR0_1.out x6_1 p364 q364
           cases e364
           replace hx364_0 := hs HB.out hx364_0
           replace hx364_1 := hs HB.out hx364_1
           replace hx364_2 := hs HB.out hx364_2
           have HR364_1 := aM hi364_1
           have HC364_1 := aM hl364_1
           clear hi364_1 hl364_1
           have HR364_2 := aM hi364_2
           have HC364_2 := aM hl364_2
           clear hi364_2 hl364_2
           replace p364 := eq_true p364
           replace q364 := eq_true q364
           go_wp2
           repeat (go_quiet (fail); try go_wp2)
           go_roundg k3
           case measure => have := HK1.out; have := HJ4.out; have := HK3.out; omega
           case rel => exact ⟨(x5_3), (wrap64 (x6_1 + 1)), (by first | rfl | (simp; done) | (simp [*]; done)), H', ⟨by have := HK1.out; have := HJ4.out; have := HK3.out; omega⟩, ⟨by (with_reducible repeat (first | apply rA | apply rN | apply rD)); exact HO_5.out⟩, ⟨by (with_reducible repeat (first | refine kN ?_ _ | refine kD ?_ | refine kA ?_ _)); exact BK362.out⟩, ⟨by (with_reducible repeat (first | refine kN ?_ _ | refine kD ?_ | refine kA ?_ _)); exact BK363.out⟩, ⟨bl⟩⟩
         ·rw [if_neg c14] at H
          exact absurd H (by simp)
        ·rw [if_neg c13] at H
         exact absurd H (by simp)
     ·replace c12 := Bool.eq_false_iff.mpr c12
      subst c12
      have H1 : (mapmakerref14_Users.l2 kj4 x5_1 0 l0_0 l0_1 l0_2 a1_0 a1_1) = some r := by rw [if_neg (show ¬ (false = true) by decide)] at H; exact H
      clear H
      have H := H1
      clear H1
      have H' := aM H
      clear H
      go_wp2
      repeat (go_quiet (fail); try go_wp2)
      go_loopg [5, 8] kj4 (fun kq v5 v8 w' => ∃ (x5_3 : List (S34)) (x8_3 : Int), v8 = .int .i64 x8_3 ∧ Aside0 (mapmakerref14_Users.l2 kq x5_3 x8_3 l0_0 l0_1 l0_2 a1_0 a1_1 = some r) ∧ Aside0 (kq ≤ kj4) ∧ Aside0 (Kd.R k34 34 w' w.heap.size (fun k_ => k_ ≠ gb363) v5 x5_3) ∧ Aside0 (w'.heap[gb362]? = some (.cells #[(.slice A0_0 l0_0.length c0_0), (.slice A0_1 l0_1.length c0_1), (.slice A0_2 l0_2.length c0_2)] 26 (0, 0))) ∧ Aside0 (w'.heap[gb363]? = some (.cells #[.int .i64 a1_0, .int .i64 a1_1] 34 (0, 0))) ∧ Aside0 (Below w.heap.size w w'))
      case atStart => exact ⟨(x5_1), (0), (by first | rfl | (simp; done) | (simp [*]; done)), H', ⟨Nat.le_refl _⟩, ⟨by (with_reducible repeat (first | apply rA | apply rN | apply rD)); exact HO_5.out⟩, ⟨by (with_reducible repeat (first | refine kN ?_ _ | refine kD ?_ | refine kA ?_ _)); exact BK362.out⟩, ⟨by (with_reducible repeat (first | refine kN ?_ _ | refine kD ?_ | refine kA ?_ _)); exact BK363.out⟩, ⟨bl⟩⟩
      case round =>
       clear H'
       try clear c1
       try clear c2
       try clear p2
       try clear c3
       try clear p3
       try clear q3
       try clear hx3
       try clear c6
       try clear c6b0
       try clear p6
       try clear c7
       try clear c10
       try clear c12
       try clear c13
       try clear c13b0
       try clear c14
       try clear c14b0
       try clear c15
       try clear c15b0
       try clear c16
       try clear c16b0
       try clear c17
       try clear c17b0
       try clear c17b1
       try clear c19
       try clear c24
       try clear c25
       try clear c27
       try clear hcz11_0 hcz11_1 hcz11_2 hfz11_0 hfz11_1 hfz11_2
       try clear hcz20_0 hcz20_1 hcz20_2 hfz20_0 hfz20_1 hfz20_2
       try clear hcz21_0 hcz21_1 hfz21_0 hfz21_1
       try clear hcz25_0 hcz25_1 hcz25_2 hfz25_0 hfz25_1 hfz25_2
       try clear hcz26_0 hcz26_1 hfz26_0 hfz26_1
       try clear hcz28_0 hcz28_1 hcz28_2 hfz28_0 hfz28_1 hfz28_2
       try clear hcz8_0 hcz8_1 hcz8_2 hfz8_0 hfz8_1 hfz8_2
       try clear hcz9_0 hcz9_1 hfz9_0 hfz9_1
       try clear hx364_0
       try clear hx364_1
       try clear hx364_2
       try clear hx365_0
       try clear hx365_1
       try clear hx365_2
       try clear hx366_0
       try clear hx367_0
       try clear hx367_1
       try clear hx367_2
       try clear p2
       try clear p364
       try clear p365
       try clear p366
       try clear p367
       try clear q364
       try clear q365
       try clear q366
       try clear q367
       obtain ⟨x5_3, x8_3, rfl, HA, HK3, HO_5, BK362, BK363, HB⟩ := hrel
       cases gk with
       | zero => exact absurd HA.out (by simp [mapmakerref14_Users.l2])
       | succ k3 =>
        have H := HA.out
        clear HA
        simp only [mapmakerref14_Users.l2] at H
        by_cases c29 : x8_3 < (l0_2.length : Int)
        ·rw [if_pos c29] at H
         have c29b0 : decide (x8_3 < (l0_2.length : Int)) = true := decide_eq_true c29
         clear c29
         have H' := aM H
         clear H
         have hnb30 := NB362_363.out
         have hnc30 := NB363_362.out
         obtain ⟨hcz31_0, hcz31_1, hcz31_2, hfz31_0, hfz31_1, hfz31_2⟩ := bc3 BK362
         go_wp2
         repeat (go_quiet (fail); try go_wp2)
         go_loopg [5, 9] k3 (fun kq v5 v9 w' => ∃ (x5_4 : List (S34)) (x9_4 : Int), v9 = .int .i64 x9_4 ∧ Aside0 (mapmakerref14_Users.l3 kq x5_4 x8_3 x9_4 l0_0 l0_1 l0_2 a1_0 a1_1 = some r) ∧ Aside0 (kq ≤ k3) ∧ Aside0 (Kd.R k34 34 w' w.heap.size (fun k_ => k_ ≠ gb363) v5 x5_4) ∧ Aside0 (w'.heap[gb362]? = some (.cells #[(.slice A0_0 l0_0.length c0_0), (.slice A0_1 l0_1.length c0_1), (.slice A0_2 l0_2.length c0_2)] 26 (0, 0))) ∧ Aside0 (w'.heap[gb363]? = some (.cells #[.int .i64 a1_0, .int .i64 a1_1] 34 (0, 0))) ∧ Aside0 (Below w.heap.size w w'))
         case atStart => exact ⟨(x5_3), (0), (by first | rfl | (simp; done) | (simp [*]; done)), H', ⟨Nat.le_refl _⟩, ⟨by (with_reducible repeat (first | apply rA | apply rN | apply rD)); exact HO_5.out⟩, ⟨by (with_reducible repeat (first | refine kN ?_ _ | refine kD ?_ | refine kA ?_ _)); exact BK362.out⟩, ⟨by (with_reducible repeat (first | refine kN ?_ _ | refine kD ?_ | refine kA ?_ _)); exact BK363.out⟩, ⟨bl⟩⟩
         case round =>
          clear H'
          try clear c1
          try clear c2
          try clear p2
          try clear c3
          try clear p3
          try clear q3
          try clear hx3
          try clear c6
          try clear c6b0
          try clear p6
          try clear c7
          try clear c10
          try clear c12
          try clear c13
          try clear c13b0
          try clear c14
          try clear c14b0
          try clear c15
          try clear c15b0
          try clear c16
          try clear c16b0
          try clear c17
          try clear c17b0
          try clear c17b1
          try clear c19
          try clear c24
          try clear c25
          try clear c27
          try clear c29
          try clear c29b0
          try clear c30
          try clear hcz11_0 hcz11_1 hcz11_2 hfz11_0 hfz11_1 hfz11_2
          try clear hcz20_0 hcz20_1 hcz20_2 hfz20_0 hfz20_1 hfz20_2
          try clear hcz21_0 hcz21_1 hfz21_0 hfz21_1
          try clear hcz25_0 hcz25_1 hcz25_2 hfz25_0 hfz25_1 hfz25_2
          try clear hcz26_0 hcz26_1 hfz26_0 hfz26_1
          try clear hcz28_0 hcz28_1 hcz28_2 hfz28_0 hfz28_1 hfz28_2
          try clear hcz31_0 hcz31_1 hcz31_2 hfz31_0 hfz31_1 hfz31_2
          try clear hcz8_0 hcz8_1 hcz8_2 hfz8_0 hfz8_1 hfz8_2
          try clear hcz9_0 hcz9_1 hfz9_0 hfz9_1
          try clear hx364_0
          try clear hx364_1
          try clear hx364_2
          try clear hx365_0
          try clear hx365_1
          try clear hx365_2
          try clear hx366_0
          try clear hx367_0
          try clear hx367_1
          try clear hx367_2
          try clear p2
          try clear p3
          try clear p364
          try clear p365
          try clear p366
          try clear p367
          try clear p6
          try clear q3
          try clear q364
          try clear q365
          try clear q366
          try clear q367
          obtain ⟨x5_4, x9_4, rfl, HA, HK4, HO_5, BK362, BK363, HB⟩ := hrel
          cases gk with
          | zero => exact absurd HA.out (by simp [mapmakerref14_Users.l3])
          | succ k4 =>
           have H := HA.out
           clear HA
           simp only [mapmakerref14_Users.l3] at H
           by_cases c32 : 0 ≤ x8_3
           ·rw [if_pos c32] at H
            have c32b0 : decide (0 ≤ x8_3) = true := decide_eq_true c32
            clear c32
            by_cases c33 : x8_3 < (l0_2.length : Int)
            ·rw [if_pos c33] at H
             have c33b0 : decide (x8_3 < (l0_2.length : Int)) = true := decide_eq_true c33
             clear c33
             by_cases c34 : x9_4 < (((rd_T51 l0_2 x8_3).f1).length : Int)
             ·rw [if_pos c34] at H
              have c34b0 : decide (x9_4 < (((rd_T51 l0_2 x8_3).f1).length : Int)) = true := decide_eq_true c34
              clear c34
              by_cases c35 : 0 ≤ x9_4
              ·rw [if_pos c35] at H
               have c35b0 : decide (0 ≤ x9_4) = true := decide_eq_true c35
               clear c35
               by_cases c36 : (((rd_T67 ((rd_T51 l0_2 x8_3).f1) x9_4).f0.f0) == a1_0 && (((rd_T67 ((rd_T51 l0_2 x8_3).f1) x9_4).f0.f1) == a1_1)) = true
               ·rw [if_pos c36] at H
                have c36b0 : (((rd_T67 ((rd_T51 l0_2 x8_3).f1) x9_4).f0.f0) == a1_0 && (((rd_T67 ((rd_T51 l0_2 x8_3).f1) x9_4).f0.f1) == a1_1)) = true := c36
                (try (have c36b1 : decide (((rd_T67 ((rd_T51 l0_2 x8_3).f1) x9_4).f0.f0) = a1_0 && (((rd_T67 ((rd_T51 l0_2 x8_3).f1) x9_4).f0.f1) == a1_1)) = true := by simpa using c36))
                (try (have c36b2 : (((rd_T67 ((rd_T51 l0_2 x8_3).f1) x9_4).f0.f0) == a1_0 && (((rd_T67 ((rd_T51 l0_2 x8_3).f1) x9_4).f0.f1) == a1_1)) = true := by simpa using c36))
                clear c36
                replace H := Option.bind_eq_some_iff.mp H
                obtain ⟨t375, A370, H⟩ := H
                try dsimp only at H
                have A37 := aM A370
                clear A370
                have H' := aM H
                clear H
                have hnb38 := NB362_363.out
                have hnc38 := NB363_362.out
                obtain ⟨hcz39_0, hcz39_1, hcz39_2, hfz39_0, hfz39_1, hfz39_2⟩ := bc3 BK362
                have p371 : 0 ≤ (x8_3 : Int) := oT
                have q371 : x8_3 < (l0_2.length : Int) := oT
                obtain ⟨ad371, A371_1, c371_1, A371_2, c371_2, e371, hx371_0, hx371_1, hx371_2, hl371_1, hi371_1, hl371_2, hi371_2⟩ := at_T51 HR0_2.out x8_3 p371 q371
                cases e371
                replace hx371_0 := hs HB.out hx371_0
                replace hx371_1 := hs HB.out hx371_1
                replace hx371_2 := hs HB.out hx371_2
                have HR371_1 := aM hi371_1
                have HC371_1 := aM hl371_1
                clear hi371_1 hl371_1
                have HR371_2 := aM hi371_2
                have HC371_2 := aM hl371_2
                clear hi371_2 hl371_2
                replace p371 := eq_true p371
                replace q371 := eq_true q371
                have p372 : 0 ≤ (x8_3 : Int) := oT
                have q372 : x8_3 < (l0_2.length : Int) := oT
                obtain ⟨ad372, A372_1, c372_1, A372_2, c372_2, e372, hx372_0, hx372_1, hx372_2, hl372_1, hi372_1, hl372_2, hi372_2⟩ := at_T51 HR0_2.out x8_3 p372 q372
                obtain rfl : ad371 = ad372 := (by injection e372)
                replace hx372_0 := hs HB.out hx372_0
                replace hx372_1 := hs HB.out hx372_1
                replace hx372_2 := hs HB.out hx372_2
                have HR372_1 := aM hi372_1
                have HC372_1 := aM hl372_1
                clear hi372_1 hl372_1
                have HR372_2 := aM hi372_2
                have HC372_2 := aM hl372_2
                clear hi372_2 hl372_2
                replace p372 := eq_true p372
                replace q372 := eq_true q372
                have ea_ := Option.some.inj (hx371_1.symm.trans hx372_1)
                injection ea_ with ea_ en_ ec_
                subst ea_
                subst ec_
                clear en_
                have ea_ := Option.some.inj (hx371_2.symm.trans hx372_2)
                injection ea_ with ea_ en_ ec_
                subst ea_
                subst ec_
                clear en_
                have p373 : 0 ≤ (x9_4 : Int) := oT
                have q373 : x9_4 < (((rd_T51 l0_2 x8_3).f1).length : Int) := oT
                obtain ⟨ad373, e373, hx373_0, hx373_1, hx373_2⟩ := at_T67 HR372_1.out x9_4 p373 q373
                cases e373
                replace hx373_0 := hs HB.out hx373_0
                replace hx373_1 := hs HB.out hx373_1
                replace hx373_2 := hs HB.out hx373_2
                replace p373 := eq_true p373
                replace q373 := eq_true q373
                obtain ⟨hcz40_0, hcz40_1, hfz40_0, hfz40_1⟩ := bc2 BK363
                have p374 : 0 ≤ (x8_3 : Int) := oT
                have q374 : x8_3 < (l0_2.length : Int) := oT
                obtain ⟨ad374, A374_1, c374_1, A374_2, c374_2, e374, hx374_0, hx374_1, hx374_2, hl374_1, hi374_1, hl374_2, hi374_2⟩ := at_T51 HR0_2.out x8_3 p374 q374
                obtain rfl : ad371 = ad374 := (by injection e374)
                replace hx374_0 := hs HB.out hx374_0
                replace hx374_1 := hs HB.out hx374_1
                replace hx374_2 := hs HB.out hx374_2
                have HR374_1 := aM hi374_1
                have HC374_1 := aM hl374_1
                clear hi374_1 hl374_1
                have HR374_2 := aM hi374_2
                have HC374_2 := aM hl374_2
                clear hi374_2 hl374_2
                replace p374 := eq_true p374
                replace q374 := eq_true q374
                have ea_ := Option.some.inj (hx371_1.symm.trans hx374_1)
                injection ea_ with ea_ en_ ec_
                subst ea_
                subst ec_
                clear en_
                have ea_ := Option.some.inj (hx371_2.symm.trans hx374_2)
                injection ea_ with ea_ en_ ec_
                subst ea_
                subst ec_
                clear en_
                obtain ⟨Ao41, co41, eo41⟩ := Kd.R_slice HO_5.out
                subst eo41
                go_wp2_with (first | (go_at_call 59; (with_reducible refine (mapmakerref14_With.calls k4 _ _ x5_4 3 ((rd_T51 l0_2 x8_3).f0) t375 _ ?side1 ?side2 A37.out).mono ?_); (case side1 => repeat (first | exact (rR HO_5.out).2.2 | (with_reducible refine cA ?_ _) | (with_reducible refine cN ?_ _) | (with_reducible refine cD ?_))); (case side2 => exact (rR HO_5.out).2.1); rintro e w42 ⟨v376, rfl, ho0, hb⟩; have HO377 := aM (Kd.R_lower (Kd.R_newB (Kd.R_new' ho0 (Kd.R_lt (rl HO_5))) (kl BK363)) (below_size (bl))); replace HO_5 := aM (rE (rl HO_5) (Kd.R_base ho0) hb); replace BK362 := aM (kB (kl BK362) hb); replace BK363 := aM (kB (kl BK363) hb); replace HB := aM (bS (bl) hb); (try clear hb); (try clear ho0)))
                repeat (go_quiet (first | (go_at_call 59; (with_reducible refine (mapmakerref14_With.calls k4 _ _ x5_4 3 ((rd_T51 l0_2 x8_3).f0) t375 _ ?side1 ?side2 A37.out).mono ?_); (case side1 => repeat (first | exact (rR HO_5.out).2.2 | (with_reducible refine cA ?_ _) | (with_reducible refine cN ?_ _) | (with_reducible refine cD ?_))); (case side2 => exact (rR HO_5.out).2.1); rintro e w42 ⟨v376, rfl, ho0, hb⟩; have HO377 := aM (Kd.R_lower (Kd.R_newB (Kd.R_new' ho0 (Kd.R_lt (rl HO_5))) (kl BK363)) (below_size (bl))); replace HO_5 := aM (rE (rl HO_5) (Kd.R_base ho0) hb); replace BK362 := aM (kB (kl BK362) hb); replace BK363 := aM (kB (kl BK363) hb); replace HB := aM (bS (bl) hb); (try clear hb); (try clear ho0))); try go_wp2_with (first | (go_at_call 59; (with_reducible refine (mapmakerref14_With.calls k4 _ _ x5_4 3 ((rd_T51 l0_2 x8_3).f0) t375 _ ?side1 ?side2 A37.out).mono ?_); (case side1 => repeat (first | exact (rR HO_5.out).2.2 | (with_reducible refine cA ?_ _) | (with_reducible refine cN ?_ _) | (with_reducible refine cD ?_))); (case side2 => exact (rR HO_5.out).2.1); rintro e w42 ⟨v376, rfl, ho0, hb⟩; have HO377 := aM (Kd.R_lower (Kd.R_newB (Kd.R_new' ho0 (Kd.R_lt (rl HO_5))) (kl BK363)) (below_size (bl))); replace HO_5 := aM (rE (rl HO_5) (Kd.R_base ho0) hb); replace BK362 := aM (kB (kl BK362) hb); replace BK363 := aM (kB (kl BK363) hb); replace HB := aM (bS (bl) hb); (try clear hb); (try clear ho0))))
                go_roundg k4
                case measure => have := HK1.out; have := HJ4.out; have := HK3.out; have := HK4.out; omega
                case rel => exact ⟨(t375), (wrap64 (x9_4 + 1)), (by first | rfl | (simp; done) | (simp [*]; done)), H', ⟨by have := HK1.out; have := HJ4.out; have := HK3.out; have := HK4.out; omega⟩, ⟨by (with_reducible repeat (first | apply rA | apply rN | apply rD)); exact rM HO377.out (fun _ hk => hk.2)⟩, ⟨by (with_reducible repeat (first | refine kN ?_ _ | refine kD ?_ | refine kA ?_ _)); exact BK362.out⟩, ⟨by (with_reducible repeat (first | refine kN ?_ _ | refine kD ?_ | refine kA ?_ _)); exact BK363.out⟩, ⟨bl⟩⟩
               ·rw [if_neg c36] at H
                have c36b0 : (((rd_T67 ((rd_T51 l0_2 x8_3).f1) x9_4).f0.f0) == a1_0 && (((rd_T67 ((rd_T51 l0_2 x8_3).f1) x9_4).f0.f1) == a1_1)) = false := by simpa using c36
                (try (have c36b1 : decide (((rd_T67 ((rd_T51 l0_2 x8_3).f1) x9_4).f0.f0) = a1_0 && (((rd_T67 ((rd_T51 l0_2 x8_3).f1) x9_4).f0.f1) == a1_1)) = false := by simpa using c36))
                (try (have c36b2 : (((rd_T67 ((rd_T51 l0_2 x8_3).f1) x9_4).f0.f0) == a1_0 && (((rd_T67 ((rd_T51 l0_2 x8_3).f1) x9_4).f0.f1) == a1_1)) = false := by simpa using c36))
                (try (have c36b3 : ¬ (((rd_T67 ((rd_T51 l0_2 x8_3).f1) x9_4).f0.f0) = a1_0 && (((rd_T67 ((rd_T51 l0_2 x8_3).f1) x9_4).f0.f1) == a1_1)) := by simpa using c36))
                clear c36
                have H' := aM H
                clear H
                have hnb43 := NB362_363.out
                have hnc43 := NB363_362.out
                obtain ⟨hcz44_0, hcz44_1, hcz44_2, hfz44_0, hfz44_1, hfz44_2⟩ := bc3 BK362
                have p371 : 0 ≤ (x8_3 : Int) := oT
                have q371 : x8_3 < (l0_2.length : Int) := oT
                obtain ⟨ad371, A371_1, c371_1, A371_2, c371_2, e371, hx371_0, hx371_1, hx371_2, hl371_1, hi371_1, hl371_2, hi371_2⟩ := at_T51 HR0_2.out x8_3 p371 q371
                cases e371
                replace hx371_0 := hs HB.out hx371_0
                replace hx371_1 := hs HB.out hx371_1
                replace hx371_2 := hs HB.out hx371_2
                have HR371_1 := aM hi371_1
                have HC371_1 := aM hl371_1
                clear hi371_1 hl371_1
                have HR371_2 := aM hi371_2
                have HC371_2 := aM hl371_2
                clear hi371_2 hl371_2
                replace p371 := eq_true p371
                replace q371 := eq_true q371
                have p372 : 0 ≤ (x8_3 : Int) := oT
                have q372 : x8_3 < (l0_2.length : Int) := oT
                obtain ⟨ad372, A372_1, c372_1, A372_2, c372_2, e372, hx372_0, hx372_1, hx372_2, hl372_1, hi372_1, hl372_2, hi372_2⟩ := at_T51 HR0_2.out x8_3 p372 q372
                obtain rfl : ad371 = ad372 := (by injection e372)
                replace hx372_0 := hs HB.out hx372_0
                replace hx372_1 := hs HB.out hx372_1
                replace hx372_2 := hs HB.out hx372_2
                have HR372_1 := aM hi372_1
                have HC372_1 := aM hl372_1
                clear hi372_1 hl372_1
                have HR372_2 := aM hi372_2
                have HC372_2 := aM hl372_2
                clear hi372_2 hl372_2
                replace p372 := eq_true p372
                replace q372 := eq_true q372
                have ea_ := Option.some.inj (hx371_1.symm.trans hx372_1)
                injection ea_ with ea_ en_ ec_
                subst ea_
                subst ec_
                clear en_
                have ea_ := Option.some.inj (hx371_2.symm.trans hx372_2)
                injection ea_ with ea_ en_ ec_
                subst ea_
                subst ec_
                clear en_
                have p373 : 0 ≤ (x9_4 : Int) := oT
                have q373 : x9_4 < (((rd_T51 l0_2 x8_3).f1).length : Int) := oT
                obtain ⟨ad373, e373, hx373_0, hx373_1, hx373_2⟩ := at_T67 HR372_1.out x9_4 p373 q373
                cases e373
                replace hx373_0 := hs HB.out hx373_0
                replace hx373_1 := hs HB.out hx373_1
                replace hx373_2 := hs HB.out hx373_2
                replace p373 := eq_true p373
                replace q373 := eq_true q373
                obtain ⟨hcz45_0, hcz45_1, hfz45_0, hfz45_1⟩ := bc2 BK363
                go_wp2
                repeat (go_quiet (fail); try go_wp2)
                go_roundg k4
                case measure => have := HK1.out; have := HJ4.out; have := HK3.out; have := HK4.out; omega
                case rel => exact ⟨(x5_4), (wrap64 (x9_4 + 1)), (by first | rfl | (simp; done) | (simp [*]; done)), H', ⟨by have := HK1.out; have := HJ4.out; have := HK3.out; have := HK4.out; omega⟩, ⟨by (with_reducible repeat (first | apply rA | apply rN | apply rD)); exact HO_5.out⟩, ⟨by (with_reducible repeat (first | refine kN ?_ _ | refine kD ?_ | refine kA ?_ _)); exact BK362.out⟩, ⟨by (with_reducible repeat (first | refine kN ?_ _ | refine kD ?_ | refine kA ?_ _)); exact BK363.out⟩, ⟨bl⟩⟩
              ·rw [if_neg c35] at H
               exact absurd H (by simp)
             ·rw [if_neg c34] at H
              have c34b0 : decide (x9_4 < (((rd_T51 l0_2 x8_3).f1).length : Int)) = false := decide_eq_false c34
              clear c34
              have H' := aM H
              clear H
              have hnb46 := NB362_363.out
              have hnc46 := NB363_362.out
              obtain ⟨hcz47_0, hcz47_1, hcz47_2, hfz47_0, hfz47_1, hfz47_2⟩ := bc3 BK362
              have p371 : 0 ≤ (x8_3 : Int) := oT
              have q371 : x8_3 < (l0_2.length : Int) := oT
              obtain ⟨ad371, A371_1, c371_1, A371_2, c371_2, e371, hx371_0, hx371_1, hx371_2, hl371_1, hi371_1, hl371_2, hi371_2⟩ := at_T51 HR0_2.out x8_3 p371 q371
              cases e371
              replace hx371_0 := hs HB.out hx371_0
              replace hx371_1 := hs HB.out hx371_1
              replace hx371_2 := hs HB.out hx371_2
              have HR371_1 := aM hi371_1
              have HC371_1 := aM hl371_1
              clear hi371_1 hl371_1
              have HR371_2 := aM hi371_2
              have HC371_2 := aM hl371_2
              clear hi371_2 hl371_2
              replace p371 := eq_true p371
              replace q371 := eq_true q371
              go_wp2
              repeat (go_quiet (fail); try go_wp2)
              go_roundg k4
              case measure => have := HK1.out; have := HJ4.out; have := HK3.out; have := HK4.out; omega
              case rel => exact ⟨(x5_4), (wrap64 (x8_3 + 1)), (by first | rfl | (simp; done) | (simp [*]; done)), H', ⟨by have := HK1.out; have := HJ4.out; have := HK3.out; have := HK4.out; omega⟩, ⟨by (with_reducible repeat (first | apply rA | apply rN | apply rD)); exact HO_5.out⟩, ⟨by (with_reducible repeat (first | refine kN ?_ _ | refine kD ?_ | refine kA ?_ _)); exact BK362.out⟩, ⟨by (with_reducible repeat (first | refine kN ?_ _ | refine kD ?_ | refine kA ?_ _)); exact BK363.out⟩, ⟨bl⟩⟩
            ·rw [if_neg c33] at H
             exact absurd H (by simp)
           ·rw [if_neg c32] at H
            exact absurd H (by simp)
        ·rw [if_neg c29] at H
         have c29b0 : decide (x8_3 < (l0_2.length : Int)) = false := decide_eq_false c29
         clear c29
         obtain rfl := Option.some.inj H
         have hnb48 := NB362_363.out
         have hnc48 := NB363_362.out
         obtain ⟨hcz49_0, hcz49_1, hcz49_2, hfz49_0, hfz49_1, hfz49_2⟩ := bc3 BK362
         go_wp2
         repeat (go_quiet (fail); try go_wp2)
         go_ret
         exact ⟨_, by first | rfl | (simp [errW_none, errW_some] <;> rfl) | (simp [*, errW_none, errW_some] <;> rfl), by (with_reducible repeat (first | apply rA | apply rN | apply rD)); exact rM HO_5.out (fun _ hk => trivial), bl⟩
end Go.Proofs.Ytgenbepicnbecaa.PAll
