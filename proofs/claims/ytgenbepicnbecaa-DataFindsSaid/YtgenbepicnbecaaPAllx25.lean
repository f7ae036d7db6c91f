-- out of a driver of this session's prover over the kit's print: Lean checks it
import Derived.Test.YtgenbepicnbecaaPAllx0
import Derived.Test.YtgenbepicnbecaaPAllx1
import Derived.Test.YtgenbepicnbecaaPAllx24
namespace Go.Proofs.Ytgenbepicnbecaa.PAll
open Go.Proofs.YtgenbepicnbecaaG Go.Shelf Go.Lib
open Go.RowKit Go.Proofs.YtgenbepicnbecaaW.PrintWords Go.Proofs.YtgenbepicnbecaaW.PrintLast Go.Proofs.YtgenbepicnbecaaW.PrintMore
attribute [local go_sem] max2_int min2_int max_two min_two max_three min_three max_four min_four   -- for this text's walks alone
set_option linter.unusedVariables false
set_option linter.unusedSimpArgs false
attribute [local go_sem high] eqA34
mutual
def mapmakerref14_With.l0 : Nat → List (S34) → List (S34) → Bool → Int → Int → Int → Option ((List (S34)))
 | 0, _, _, _, _, _, _ => none
 | k + 1, x0, x5, x6, x7, x344000, x344001 => if x7 < (x0.length : Int) then (if x6 = true then (mapmakerref14_With.j1 k x0 x5 x6 x7 false x344000 x344001) else (if 0 ≤ x7 then ((mapmakerref14_Less.f ((rd_T34 x0 x7).f0) ((rd_T34 x0 x7).f1) x344000 x344001).bind fun t348 => (mapmakerref14_With.j1 k x0 x5 x6 x7 (!t348) x344000 x344001)) else (none))) else (if x6 = true then (some x5) else (if x5.length < 8796093022208 then (some (x5 ++ [(⟨x344000, x344001⟩ : S34)])) else (none)))
def mapmakerref14_With.j1 : Nat → List (S34) → List (S34) → Bool → Int → Bool → Int → Int → Option ((List (S34)))
 | 0, _, _, _, _, _, _, _ => none
 | k + 1, x0, x5, x6, x7, x24, x344000, x344001 => if x24 = true then (if x5.length < 8796093022208 then ((some (x5 ++ [(⟨x344000, x344001⟩ : S34)] : List (S34))).bind fun y349 => (if 0 ≤ x7 then (if x7 < (x0.length : Int) then (if (!(((rd_T34 x0 x7).f0) == x344000) || (!(((rd_T34 x0 x7).f1) == x344001))) = true then (if y349.length < 8796093022208 then (mapmakerref14_With.l0 k x0 (y349 ++ [(⟨(rd_T34 x0 x7).f0, (rd_T34 x0 x7).f1⟩ : S34)]) true (wrap64 (x7 + 1)) x344000 x344001) else (none)) else (mapmakerref14_With.l0 k x0 y349 true (wrap64 (x7 + 1)) x344000 x344001)) else (none)) else (none))) else (none)) else (if 0 ≤ x7 then (if x7 < (x0.length : Int) then (if (!(((rd_T34 x0 x7).f0) == x344000) || (!(((rd_T34 x0 x7).f1) == x344001))) = true then (if x5.length < 8796093022208 then (mapmakerref14_With.l0 k x0 (x5 ++ [(⟨(rd_T34 x0 x7).f0, (rd_T34 x0 x7).f1⟩ : S34)]) x6 (wrap64 (x7 + 1)) x344000 x344001) else (none)) else (mapmakerref14_With.l0 k x0 x5 x6 (wrap64 (x7 + 1)) x344000 x344001)) else (none)) else (none))
end
def mapmakerref14_With.f (k : Nat) (l0 : List (S34)) (a1_0 : Int) (a1_1 : Int) : Option ((List (S34))) := mapmakerref14_With.l0 k l0 ([] : List (S34)) false 0 a1_0 a1_1
theorem mapmakerref14_With.mono_l : ∀ k, (∀ y0 y1 y2 y3 y4 y5, LeO (mapmakerref14_With.l0 k y0 y1 y2 y3 y4 y5) (mapmakerref14_With.l0 (k + 1) y0 y1 y2 y3 y4 y5)) ∧ (∀ y0 y1 y2 y3 y4 y5 y6, LeO (mapmakerref14_With.j1 k y0 y1 y2 y3 y4 y5 y6) (mapmakerref14_With.j1 (k + 1) y0 y1 y2 y3 y4 y5 y6))
 | 0 => ⟨fun _ _ _ _ _ _ r h => by simp [mapmakerref14_With.l0] at h, fun _ _ _ _ _ _ _ r h => by simp [mapmakerref14_With.j1] at h⟩
 | k + 1 => by
  obtain ⟨ih0, ih1⟩ := mapmakerref14_With.mono_l k
  refine ⟨?_, ?_⟩
  ·intro y0 y1 y2 y3 y4 y5
   unfold mapmakerref14_With.l0
   repeat' first
   | (with_reducible exact ih0 _ _ _ _ _ _)
   | (with_reducible exact ih1 _ _ _ _ _ _ _)
   | (with_reducible exact LeO.refl _)
   | (with_reducible exact LeO.none _)
   | (with_reducible refine LeO.ite ?_ ?_)
   | (with_reducible refine LeO.bind ?_ (fun _ => ?_))
   | exact ih0 _ _ _ _ _ _
   | exact ih1 _ _ _ _ _ _ _
   | exact LeO.none _
   | refine LeO.ite ?_ ?_
   | refine LeO.bind ?_ (fun _ => ?_)
  ·intro y0 y1 y2 y3 y4 y5 y6
   unfold mapmakerref14_With.j1
   repeat' first
   | (with_reducible exact ih0 _ _ _ _ _ _)
   | (with_reducible exact ih1 _ _ _ _ _ _ _)
   | (with_reducible exact LeO.refl _)
   | (with_reducible exact LeO.none _)
   | (with_reducible refine LeO.ite ?_ ?_)
   | (with_reducible refine LeO.bind ?_ (fun _ => ?_))
   | exact ih0 _ _ _ _ _ _
   | exact ih1 _ _ _ _ _ _ _
   | exact LeO.none _
   | refine LeO.ite ?_ ?_
   | refine LeO.bind ?_ (fun _ => ?_)
theorem mapmakerref14_With.mono : ∀ a0 a1 a2 k, LeO (mapmakerref14_With.f k a0 a1 a2) (mapmakerref14_With.f (k + 1) a0 a1 a2) := by
 intro a0 a1 a2 k
 obtain ⟨ih0, ih1⟩ := mapmakerref14_With.mono_l k
 unfold mapmakerref14_With.f
 repeat' first
   | (with_reducible exact ih0 _ _ _ _ _ _)
   | (with_reducible exact ih1 _ _ _ _ _ _ _)
   | (with_reducible exact LeO.refl _)
   | (with_reducible exact LeO.none _)
   | (with_reducible refine LeO.ite ?_ ?_)
   | (with_reducible refine LeO.bind ?_ (fun _ => ?_))
   | exact ih0 _ _ _ _ _ _
   | exact ih1 _ _ _ _ _ _ _
   | exact LeO.none _
   | refine LeO.ite ?_ ?_
   | refine LeO.bind ?_ (fun _ => ?_)
def mapmakerref14_With.T6 : Bool × List (List Nat × List Nat) := (true, [([], []), ([0], [0]), ([1], [1]), ([2], [2]), ([2], [2]), ([3, 4, 2], [2, 3, 4]), ([5, 2], [2, 5]), ([2], [2]), ([6, 7, 2, 2], [2, 6, 7]), ([8, 2], [2, 8]), ([2, 9], [2, 9])])
def mapmakerref14_With.B6 : List Nat := [0, 1, 3, 7, 7, 31, 63, 7, 255, 511, 1023]
theorem mapmakerref14_With.tab6 : rtab .any (opsOf Try.f59 6) = mapmakerref14_With.T6 := by kernel_rfl
theorem mapmakerref14_With.bits6 : waitsOk mapmakerref14_With.T6.2 mapmakerref14_With.B6 = true := by kernel_rfl
set_option maxHeartbeats 8000000 in
set_option maxRecDepth 100000 in
theorem mapmakerref14_With.calls (k : Nat) (A0 : Option Addr) (c0 : Nat) (l0 : List (S34)) (a1_0 : Int) (a1_1 : Int) (r : List (S34)) (w : World) (hr0 : Kd.C k34 w A0 l0.length l0) (hc0 : l0.length ≤ c0) (h : mapmakerref14_With.f k l0 a1_0 a1_1 = some r) :
  Calls Try.prog 59 #[.slice A0 l0.length c0, .agg #[.int .i64 a1_0, .int .i64 a1_1]] w fun e w' => ∃ v0_ : Value, e = .returned (v0_) ∧ Kd.R k34 34 w' w.heap.size (fun _ => True) v0_ r ∧ Below w.heap.size w w' := by
 have hu34 := Try.underlying34
 have HR0 := aM hr0
 have HC0 := aM hc0
 clear hr0 hc0
 have HB := aM (Below.refl w.heap.size w)
 have H : (mapmakerref14_With.l0 k l0 ([] : List (S34)) false 0 a1_0 a1_1) = some r := h
 clear h
 have H' := aM H
 clear H
 go_enter Try.func59, Try.ntmps59
 go_wp2_with (first | ((with_reducible refine gate_dst (N := 3) rfl ?_); refine bx (N := 3) (cs := #[.int .i64 a1_0, .int .i64 a1_1]) (t := 34) ?_; intro gb343 hg w3 hbox hb; have BK343 := aM (hbox); have GE343 := aM (gw (w := w) hg); replace HB := aM (bS (bl) hb); clear hb hbox hg))
 go_loopg [5, 6, 7] k (fun kq v5 v6 v7 w' => ∃ (x5_1 : List (S34)) (x6_1 : Bool) (x7_1 : Int), v6 = .bool x6_1 ∧ v7 = .int .i64 x7_1 ∧ Aside0 (mapmakerref14_With.l0 kq l0 x5_1 x6_1 x7_1 a1_0 a1_1 = some r) ∧ Aside0 (kq ≤ k) ∧ Aside0 (Kd.R k34 34 w' w.heap.size (fun k_ => k_ ≠ gb343) v5 x5_1) ∧ Aside0 (w'.heap[gb343]? = some (.cells #[.int .i64 a1_0, .int .i64 a1_1] 34 (0, 0))) ∧ Aside0 (Below w.heap.size w w'))
 case atStart => exact ⟨(([] : List (S34))), (false), (0), (by first | rfl | (simp; done) | (simp [*]; done)), (by first | rfl | (simp; done) | (simp [*]; done)), H', ⟨Nat.le_refl _⟩, ⟨by first | exact Kd.R_nil _ _ _ _ _ | exact Kd.N_nil _ _ _ _ _ | exact Kd.V_nil _ _ _ _ _ | exact Kd.Q_nil _ _ _ _ _ | exact Kd.S_nil _ _ _ _ _⟩, ⟨by (with_reducible repeat (first | refine kN ?_ _ | refine kD ?_ | refine kA ?_ _)); exact BK343.out⟩, ⟨bl⟩⟩
 case round =>
  clear H'
  try clear p2
  obtain ⟨x5_1, x6_1, x7_1, rfl, rfl, HA, HK1, HO_5, BK343, HB⟩ := hrel
  cases gk with
  | zero => exact absurd HA.out (by simp [mapmakerref14_With.l0])
  | succ k1 =>
   have H := HA.out
   clear HA
   simp only [mapmakerref14_With.l0] at H
   by_cases c4 : x7_1 < (l0.length : Int)
   ·rw [if_pos c4] at H
    have c4b0 : decide (x7_1 < (l0.length : Int)) = true := decide_eq_true c4
    clear c4
    have HC5 := aM H
    clear H
    go_upto_region 6 with (fail)
    go_cut [24] (fun v24 wc => ∃ (kq : Nat) (x24_4 : Bool), v24 = .bool x24_4 ∧ Aside0 (mapmakerref14_With.j1 kq l0 x5_1 x6_1 x7_1 x24_4 a1_0 a1_1 = some r) ∧ Aside0 (kq ≤ k1) ∧ Aside0 (Kd.R k34 34 wc w.heap.size (fun k_ => k_ ≠ gb343) u5 x5_1) ∧ Aside0 (wc.heap[gb343]? = some (.cells #[.int .i64 a1_0, .int .i64 a1_1] 34 (0, 0))) ∧ Aside0 (Below w.heap.size w wc))
    case first =>
     have H := HC5.out
     clear HC5
     by_cases c6 : x6_1 = true
     ·subst c6
      have H1 : (mapmakerref14_With.j1 k1 l0 x5_1 true x7_1 false a1_0 a1_1) = some r := by rw [if_pos rfl] at H; exact H
      clear H
      have H := H1
      clear H1
      have H' := aM H
      clear H
      try go_wp2
      replace HO_5 := aM (rD HO_5.out)
      replace BK343 := aM (kD BK343.out)
      replace HB := aM (bD HB.out)
      refine start_ (n := 11) (S := fun w' => True) (ds := []) #[false, false, false, false, false, false, false, false, false, false, false] (by kernel_rfl) rfl rfl trivial (fun hHeld => ?_); refine with_tabW mapmakerref14_With.tab6 mapmakerref14_With.bits6 (fun HT_ HW_ => ?_)
      generalize wr.drew = w7 at HO_5 BK343 HB hHeld ⊢
      refine pure_ (i := 0) (N := some 14) (v := ?_) (a' := ?_) (ba 11 1) rfl rfl (any_of HT_.out (by kernel_rfl)) (fun _ _ _ h => h) (Or.inl ⟨by rfl, ?_⟩) ?_ ?_
      rotate_left
      ·intro w'
       go_simp
       with_reducible rfl
      rotate_left
      ·simp only [Act.put, sA, sB, sC, i64_w, i32_w]
       rfl
      refine pure_ (i := 1) (N := some 15) (v := ?_) (a' := ?_) (ba 11 3) rfl rfl (any_of HT_.out (by kernel_rfl)) (fun _ _ _ h => h) (Or.inl ⟨by rfl, ?_⟩) ?_ ?_
      rotate_left
      ·intro w'
       go_simp
       with_reducible rfl
      rotate_left
      ·simp only [Act.put, sA, sB, sC, i64_w, i32_w]
       rfl
      refine pure_ (i := 2) (N := some 16) (v := ?_) (a' := ?_) (ba 11 7) rfl rfl (any_of HT_.out (by kernel_rfl)) (fun _ _ _ h => h) (Or.inl ⟨by rfl, ?_⟩) ?_ ?_
      rotate_left
      ·intro w'
       go_simp
       with_reducible rfl
      rotate_left
      ·simp only [Act.put, sA, sB, sC, i64_w, i32_w]
       rfl
      refine pure_ (i := 3) (N := some 17) (v := undef) (a' := ?_) (ba 11 15) rfl rfl (any_of HT_.out (by kernel_rfl)) (fun _ _ _ h => h) (Or.inr ⟨by rfl, rfl⟩) ?_ ?_
      rotate_left
      ·simp only [Act.put, sA, sB, sC, i64_w, i32_w]
       rfl
      refine pure_ (i := 4) (N := some 18) (v := undef) (a' := ?_) (ba 11 31) rfl rfl (any_of HT_.out (by kernel_rfl)) (fun _ _ _ h => h) (Or.inr ⟨by rfl, rfl⟩) ?_ ?_
      rotate_left
      ·simp only [Act.put, sA, sB, sC, i64_w, i32_w]
       rfl
      refine pure_ (i := 5) (N := some 19) (v := undef) (a' := ?_) (ba 11 63) rfl rfl (any_of HT_.out (by kernel_rfl)) (fun _ _ _ h => h) (Or.inr ⟨by rfl, rfl⟩) ?_ ?_
      rotate_left
      ·simp only [Act.put, sA, sB, sC, i64_w, i32_w]
       rfl
      refine pure_ (i := 6) (N := some 20) (v := undef) (a' := ?_) (ba 11 127) rfl rfl (any_of HT_.out (by kernel_rfl)) (fun _ _ _ h => h) (Or.inr ⟨by rfl, rfl⟩) ?_ ?_
      rotate_left
      ·simp only [Act.put, sA, sB, sC, i64_w, i32_w]
       rfl
      refine pure_ (i := 7) (N := some 21) (v := undef) (a' := ?_) (ba 11 255) rfl rfl (any_of HT_.out (by kernel_rfl)) (fun _ _ _ h => h) (Or.inr ⟨by rfl, rfl⟩) ?_ ?_
      rotate_left
      ·simp only [Act.put, sA, sB, sC, i64_w, i32_w]
       rfl
      refine pure_ (i := 8) (N := some 22) (v := undef) (a' := ?_) (ba 11 511) rfl rfl (any_of HT_.out (by kernel_rfl)) (fun _ _ _ h => h) (Or.inr ⟨by rfl, rfl⟩) ?_ ?_
      rotate_left
      ·simp only [Act.put, sA, sB, sC, i64_w, i32_w]
       rfl
      refine pure_ (i := 9) (N := some 23) (v := undef) (a' := ?_) (ba 11 1023) rfl rfl (any_of HT_.out (by kernel_rfl)) (fun _ _ _ h => h) (Or.inr ⟨by rfl, rfl⟩) ?_ ?_
      rotate_left
      ·simp only [Act.put, sA, sB, sC, i64_w, i32_w]
       rfl
      refine pure_ (i := 10) (N := some 24) (v := ?_) (a' := ?_) (ba 11 2047) rfl rfl (any_of HT_.out (by kernel_rfl)) (fun _ _ _ h => h) (Or.inl ⟨by rfl, ?_⟩) ?_ ?_
      rotate_left
      ·intro w'
       go_simp
       with_reducible rfl
      rotate_left
      ·simp only [Act.put, sA, sB, sC, i64_w, i32_w]
       rfl
      refine done_ (done_of HT_.out (by kernel_rfl)) ?_
      try go_wp2
      go_meet
      case rel => exact ⟨_, (false), (by first | rfl | (simp; done) | (simp [*]; done)), H', ⟨by have := HK1.out; first | omega | exact Nat.le_refl _⟩, ⟨by (with_reducible repeat (first | apply rA | apply rN | apply rD)); exact HO_5.out⟩, ⟨by (with_reducible repeat (first | refine kN ?_ _ | refine kD ?_ | refine kA ?_ _)); exact BK343.out⟩, ⟨bl⟩⟩
     ·replace c6 := Bool.eq_false_iff.mpr c6
      subst c6
      have H1 : (if 0 ≤ x7_1 then ((mapmakerref14_Less.f ((rd_T34 l0 x7_1).f0) ((rd_T34 l0 x7_1).f1) a1_0 a1_1).bind fun t348 => (mapmakerref14_With.j1 k1 l0 x5_1 false x7_1 (!t348) a1_0 a1_1)) else (none)) = some r := by rw [if_neg (show ¬ (false = true) by decide)] at H; exact H
      clear H
      have H := H1
      clear H1
      by_cases c8 : 0 ≤ x7_1
      ·rw [if_pos c8] at H
       have c8b0 : decide (0 ≤ x7_1) = true := decide_eq_true c8
       clear c8
       (first | rw [c8b0] | (simp only [i64_w, i32_w]; rw [c8b0]) | skip)
       replace H := Option.bind_eq_some_iff.mp H
       obtain ⟨t348, A90, H⟩ := H
       try dsimp only at H
       have A9 := aM A90
       clear A90
       have H' := aM H
       clear H
       try go_wp2
       replace HO_5 := aM (rD HO_5.out)
       replace BK343 := aM (kD BK343.out)
       replace HB := aM (bD HB.out)
       have p347 : 0 ≤ (x7_1 : Int) := oT
       have q347 : x7_1 < (l0.length : Int) := oT
       obtain ⟨ad347, e347, hx347_0, hx347_1⟩ := at_T34 HR0.out x7_1 p347 q347
       have hw347_1 := hx347_1
       have hw347_0 := hx347_0
       cases e347
       replace hx347_0 := hs HB.out hx347_0
       replace hx347_1 := hs HB.out hx347_1
       replace p347 := eq_true p347
       replace q347 := eq_true q347
       refine start_ (n := 11) (S := fun w' => w'.cell? ⟨gb343, 0, none⟩ = some (.int .i64 a1_0) ∧ w'.cell? ⟨gb343, 1, none⟩ = some (.int .i64 a1_1) ∧ w'.cell? (ad347.add ((x7_1).toNat * 2)) = some (.int .i64 ((rd_T34 l0 x7_1).f0)) ∧ w'.cell? ⟨(ad347.add ((x7_1).toNat * 2)).block, (ad347.add ((x7_1).toNat * 2)).off + 1, none⟩ = some (.int .i64 ((rd_T34 l0 x7_1).f1))) (ds := []) #[false, false, false, false, false, false, false, false, false, false, false] (by kernel_rfl) rfl rfl ⟨(kC BK343.out 0).trans rfl, (kC BK343.out 1).trans rfl, ((HB.out.cell (World.block_lt_of_cell? w _ hw347_0)).trans hw347_0), ((HB.out.cell (World.block_lt_of_cell? w _ hw347_1)).trans hw347_1)⟩ (fun hHeld => ?_); refine with_tabW mapmakerref14_With.tab6 mapmakerref14_With.bits6 (fun HT_ HW_ => ?_)
       generalize wr.drew = w10 at HO_5 BK343 HB hx347_0 hx347_1 hHeld ⊢
       refine pure_ (i := 0) (N := some 14) (v := ?_) (a' := ?_) (ba 11 1) rfl rfl (any_of HT_.out (by kernel_rfl)) (fun _ _ _ h => h) (Or.inl ⟨by rfl, ?_⟩) ?_ ?_
       rotate_left
       ·intro w'
        go_simp
        with_reducible rfl
       rotate_left
       ·simp only [Act.put, sA, sB, sC, i64_w, i32_w]
        rfl
       refine pure_ (i := 1) (N := some 15) (v := ?_) (a' := ?_) (ba 11 3) rfl rfl (any_of HT_.out (by kernel_rfl)) (fun _ _ _ h => h) (Or.inl ⟨by rfl, ?_⟩) ?_ ?_
       rotate_left
       ·intro w'
        go_simp
        with_reducible rfl
       rotate_left
       ·simp only [Act.put, sA, sB, sC, i64_w, i32_w]
        rfl
       refine pure_ (i := 2) (N := some 16) (v := ?_) (a' := ?_) (ba 11 7) rfl rfl (any_of HT_.out (by kernel_rfl)) (fun _ _ _ h => h) (Or.inl ⟨by rfl, ?_⟩) ?_ ?_
       rotate_left
       ·intro w'
        go_simp
        with_reducible rfl
       rotate_left
       ·simp only [Act.put, sA, sB, sC, i64_w, i32_w]
        rfl
       refine pure_ (i := 3) (N := some 17) (v := ?_) (a' := ?_) (ba 11 15) rfl rfl (any_of HT_.out (by kernel_rfl)) (fun _ _ _ h => h) (Or.inl ⟨by rfl, ?_⟩) ?_ ?_
       rotate_left
       ·intro w'
        go_simp
        with_reducible rfl
       rotate_left
       ·simp only [Act.put, sA, sB, sC, i64_w, i32_w]
        rfl
       refine pure_ (i := 4) (N := some 18) (v := ?_) (a' := ?_) (ba 11 31) rfl rfl (any_of HT_.out (by kernel_rfl)) (fun _ _ _ h => h) (Or.inl ⟨by rfl, ?_⟩) ?_ ?_
       rotate_left
       ·intro w'
        go_simp
        with_reducible rfl
       rotate_left
       ·simp only [Act.put, sA, sB, sC, i64_w, i32_w]
        rfl
       refine pure_ (i := 5) (N := some 19) (v := ?_) (a' := ?_) (ba 11 63) rfl rfl (any_of HT_.out (by kernel_rfl)) (fun _ _ _ h => h) (Or.inl ⟨by rfl, ?_⟩) ?_ ?_
       rotate_left
       ·intro w'
        go_simp
        with_reducible rfl
       rotate_left
       ·simp only [Act.put, sA, sB, sC, i64_w, i32_w]
        rfl
       refine take_ (i := 6) (N := some 20) (v := ?_) (a' := ?_) (ba 11 127) rfl rfl (take_ofW HT_.out HW_.out (by kernel_rfl)) (fun _ _ _ h => h) (Or.inl ⟨by rfl, ?_⟩) hHeld ?_ ?_
       rotate_left
       ·rintro w' ⟨s0, s1, s2, s3⟩
        go_simp
        with_reducible rfl
       rotate_left
       ·simp only [Act.put, sA, sB, sC, i64_w, i32_w]
        rfl
       refine take_ (i := 7) (N := some 21) (v := ?_) (a' := ?_) (ba 11 255) rfl rfl (take_ofW HT_.out HW_.out (by kernel_rfl)) (fun _ _ _ h => h) (Or.inl ⟨by rfl, ?_⟩) hHeld ?_ ?_
       rotate_left
       ·rintro w' ⟨s0, s1, s2, s3⟩
        go_simp
        with_reducible rfl
       rotate_left
       ·simp only [Act.put, sA, sB, sC, i64_w, i32_w]
        rfl
       refine one_ (i := 8) (N := some 22) (ba 11 511) rfl rfl (one_of HT_.out (by kernel_rfl)) (by decide) (fun K hK => ?_)
       refine goes_ Try.func35 (by kernel_rfl) rfl #[.agg #[.int .i64 ((rd_T34 l0 x7_1).f0), .int .i64 ((rd_T34 l0 x7_1).f1)], .agg #[.int .i64 a1_0, .int .i64 a1_1]] (by rfl) rfl rfl (by (try simp only [List.map_toArray, List.map_cons, List.map_nil]); first | done | rfl | (simp only [List.length_drop, List.length_take]; rfl)) ?_
       with_reducible refine (mapmakerref14_Less.calls ((rd_T34 l0 x7_1).f0) ((rd_T34 l0 x7_1).f1) a1_0 a1_1 t348 _ A9.out).mono ?_
       rintro e w11 ⟨rfl, hb⟩
       refine ⟨_, rfl, ?_⟩
       replace HO_5 := aM (rB (rl HO_5) hb)
       replace BK343 := aM (kB (kl BK343) hb)
       replace HB := aM (bS (bl) hb)
       (try clear hb)
       (try clear hb2)
       (try clear hk)
       (try clear hi)
       refine hK.out _ _ ⟨(kC BK343.out 0).trans rfl, (kC BK343.out 1).trans rfl, ((HB.out.cell (World.block_lt_of_cell? w _ hw347_0)).trans hw347_0), ((HB.out.cell (World.block_lt_of_cell? w _ hw347_1)).trans hw347_1)⟩ (fun hHeld => ?_)
       clear hK K
       refine norm_ (a' := ?_) ?_ ?_
       rotate_left
       ·show Act.put _ (some 22) _ = _
        simp only [Act.put, sA, sB, sC, i64_w, i32_w]
        rfl
       refine pure_ (i := 9) (N := some 23) (v := ?_) (a' := ?_) (ba 11 1023) rfl rfl (any_of HT_.out (by kernel_rfl)) (fun _ _ _ h => h) (Or.inl ⟨by rfl, ?_⟩) ?_ ?_
       rotate_left
       ·intro w'
        go_simp
        with_reducible rfl
       rotate_left
       ·simp only [Act.put, sA, sB, sC, i64_w, i32_w]
        rfl
       refine pure_ (i := 10) (N := some 24) (v := ?_) (a' := ?_) (ba 11 2047) rfl rfl (any_of HT_.out (by kernel_rfl)) (fun _ _ _ h => h) (Or.inl ⟨by rfl, ?_⟩) ?_ ?_
       rotate_left
       ·intro w'
        go_simp
        with_reducible rfl
       rotate_left
       ·simp only [Act.put, sA, sB, sC, i64_w, i32_w]
        rfl
       refine done_ (done_of HT_.out (by kernel_rfl)) ?_
       try go_wp2
       go_meet
       case rel => exact ⟨_, (!t348), (by first | rfl | (simp; done) | (simp [*]; done)), H', ⟨by have := HK1.out; first | omega | exact Nat.le_refl _⟩, ⟨by (with_reducible repeat (first | apply rA | apply rN | apply rD)); exact HO_5.out⟩, ⟨by (with_reducible repeat (first | refine kN ?_ _ | refine kD ?_ | refine kA ?_ _)); exact BK343.out⟩, ⟨bl⟩⟩
      ·rw [if_neg c8] at H
       exact absurd H (by simp)
    case rest =>
     clear HC5
     try clear p2
     try clear c3
     try clear p3
     try clear q3
     try clear hx3
     try clear c4
     try clear c4b0
     try clear c5
     try clear c6
     try clear c8
     try clear c8b0
     try clear hx347_0
     try clear hx347_1
     try clear p2
     try clear p347
     try clear q347
     obtain ⟨kq, x24_4, rfl, HA, HJ4, HO_5, BK343, HB⟩ := hcut
     cases kq with
     | zero => exact absurd HA.out (by simp [mapmakerref14_With.j1])
     | succ kj4 =>
      have H := HA.out
      clear HA
      simp only [mapmakerref14_With.j1] at H
      by_cases c12 : x24_4 = true
      ·subst c12
       have H1 : (if x5_1.length < 8796093022208 then ((some (x5_1 ++ [(⟨a1_0, a1_1⟩ : S34)] : List (S34))).bind fun y349 => (if 0 ≤ x7_1 then (if x7_1 < (l0.length : Int) then (if (!(((rd_T34 l0 x7_1).f0) == a1_0) || (!(((rd_T34 l0 x7_1).f1) == a1_1))) = true then (if y349.length < 8796093022208 then (mapmakerref14_With.l0 kj4 l0 (y349 ++ [(⟨(rd_T34 l0 x7_1).f0, (rd_T34 l0 x7_1).f1⟩ : S34)]) true (wrap64 (x7_1 + 1)) a1_0 a1_1) else (none)) else (mapmakerref14_With.l0 kj4 l0 y349 true (wrap64 (x7_1 + 1)) a1_0 a1_1)) else (none)) else (none))) else (none)) = some r := by rw [if_pos rfl] at H; exact H
       clear H
       have H := H1
       clear H1
       by_cases c13 : x5_1.length < 8796093022208
       ·rw [if_pos c13] at H
        have LMc13 := aM c13
        clear c13
        obtain ⟨y349, hy349⟩ : ∃ y_ : List (S34), y_ = (x5_1 ++ [(⟨a1_0, a1_1⟩ : S34)]) := ⟨_, rfl⟩
        replace H : (if 0 ≤ x7_1 then (if x7_1 < (l0.length : Int) then (if (!(((rd_T34 l0 x7_1).f0) == a1_0) || (!(((rd_T34 l0 x7_1).f1) == a1_1))) = true then (if y349.length < 8796093022208 then (mapmakerref14_With.l0 kj4 l0 (y349 ++ [(⟨(rd_T34 l0 x7_1).f0, (rd_T34 l0 x7_1).f1⟩ : S34)]) true (wrap64 (x7_1 + 1)) a1_0 a1_1) else (none)) else (mapmakerref14_With.l0 kj4 l0 y349 true (wrap64 (x7_1 + 1)) a1_0 a1_1)) else (none)) else (none)) = some r := by first | (rw [hy349]; with_reducible exact H) | (have H2_ := (Option.bind_some _ _).symm.trans H; rw [hy349]; with_reducible exact H2_) | (have H2_ := (Option.bind_some _ _).symm.trans H; with_reducible exact H2_) | with_reducible exact H | (rw [hy349]; exact H) | exact H
        have Ny349 := aM hy349
        clear hy349
        by_cases c14 : 0 ≤ x7_1
        ·rw [if_pos c14] at H
         have c14b0 : decide (0 ≤ x7_1) = true := decide_eq_true c14
         clear c14
         by_cases c15 : x7_1 < (l0.length : Int)
         ·rw [if_pos c15] at H
          have c15b0 : decide (x7_1 < (l0.length : Int)) = true := decide_eq_true c15
          clear c15
          by_cases c16 : (!(((rd_T34 l0 x7_1).f0) == a1_0) || (!(((rd_T34 l0 x7_1).f1) == a1_1))) = true
          ·rw [if_pos c16] at H
           have c16b0 : (!(((rd_T34 l0 x7_1).f0) == a1_0) || (!(((rd_T34 l0 x7_1).f1) == a1_1))) = true := c16
           clear c16
           by_cases c17 : y349.length < 8796093022208
           ·rw [if_pos c17] at H
            have LMc17 := aM c17
            clear c17
            obtain ⟨y354, hy354⟩ : ∃ y_ : List (S34), y_ = (y349 ++ [(⟨(rd_T34 l0 x7_1).f0, (rd_T34 l0 x7_1).f1⟩ : S34)]) := ⟨_, rfl⟩
            replace H : (mapmakerref14_With.l0 kj4 l0 y354 true (wrap64 (x7_1 + 1)) a1_0 a1_1) = some r := by first | (rw [hy354]; with_reducible exact H) | (have H2_ := (Option.bind_some _ _).symm.trans H; rw [hy354]; with_reducible exact H2_) | (have H2_ := (Option.bind_some _ _).symm.trans H; with_reducible exact H2_) | with_reducible exact H | (rw [hy354]; exact H) | exact H
            have Ny354 := aM hy354
            clear hy354
            have H' := aM H
            clear H
            obtain ⟨hcz18_0, hcz18_1, hfz18_0, hfz18_1⟩ := bc2 BK343
            try go_wp2_with (first | ((with_reducible refine gate_builtin (b := .append) (xs := #[.tmp 25, .tmp 27]) rfl ?_); at_builtin; refine Kd.R_append k34 (w0 := w) w.heap.size rfl (.tmp 25) (.tmp 27) 57 34 (.agg #[(.int .i64 0), (.int .i64 0)]) 16 rfl Try.underlying57 info34 rfl (by decide) (by omega) u5 x5_1 (⟨a1_0, a1_1⟩ : S34) [.int .i64 a1_0, .int .i64 a1_1] (fun k_ => k_ ≠ gb343) (fun _ => False) rfl rfl ?aP (fun _ hk => hk.elim) ?aF ?aO ?aB ?aS ?aL ?_; (case aP => exact k34_mkM _ _ _ (⟨a1_0, a1_1⟩ : S34)); (case aB => exact (bl)); (case aF => exact (fun k_ hk => Kd.freshB (kl BK343) k_ hk)); (case aO => exact (rl HO_5)); (case aS => exact (below_size (bl))); (case aL => have := LMc13.out; omega); intro v350 w19 ho hb hg hat; rw [← Ny349.out] at ho; have HO351 := aM (ho); replace BK343 := aM (blk_grown (kl BK343) hg (Kd.R_away HO_5.out (fun _ hk => hk))); replace HB := aM (hb); clear HO_5 ho hb hg hat))
            replace HO351 := aM (rD HO351.out)
            replace BK343 := aM (kD BK343.out)
            replace HB := aM (bD HB.out)
            have p352 : 0 ≤ (x7_1 : Int) := oT
            have q352 : x7_1 < (l0.length : Int) := oT
            obtain ⟨ad352, e352, hx352_0, hx352_1⟩ := at_T34 HR0.out x7_1 p352 q352
            have hw352_1 := hx352_1
            have hw352_0 := hx352_0
            cases e352
            replace hx352_0 := hs HB.out hx352_0
            replace hx352_1 := hs HB.out hx352_1
            replace p352 := eq_true p352
            replace q352 := eq_true q352
            refine start_ (n := 6) (S := fun w' => w'.cell? ⟨gb343, 0, none⟩ = some (.int .i64 a1_0) ∧ w'.cell? ⟨gb343, 1, none⟩ = some (.int .i64 a1_1) ∧ w'.cell? (ad352.add ((x7_1).toNat * 2)) = some (.int .i64 ((rd_T34 l0 x7_1).f0)) ∧ w'.cell? ⟨(ad352.add ((x7_1).toNat * 2)).block, (ad352.add ((x7_1).toNat * 2)).off + 1, none⟩ = some (.int .i64 ((rd_T34 l0 x7_1).f1))) (ds := []) #[false, false, false, false, false, false] (by kernel_rfl) rfl rfl ⟨(kC BK343.out 0).trans rfl, (kC BK343.out 1).trans rfl, ((HB.out.cell (World.block_lt_of_cell? w _ hw352_0)).trans hw352_0), ((HB.out.cell (World.block_lt_of_cell? w _ hw352_1)).trans hw352_1)⟩ (fun hHeld => ?_)
            generalize w19.drew = w20 at HO351 BK343 HB hx352_0 hx352_1 hHeld ⊢
            refine pure_ (i := 0) (N := some 29) (v := ?_) (a' := ?_) (ba 6 1) rfl rfl (by kernel_rfl) (fun _ _ _ h => h) (Or.inl ⟨by rfl, ?_⟩) ?_ ?_
            rotate_left
            ·intro w'
             go_simp
             with_reducible rfl
            rotate_left
            ·simp only [Act.put, sA, sB, sC, i64_w, i32_w]
             rfl
            refine pure_ (i := 1) (N := some 30) (v := ?_) (a' := ?_) (ba 6 3) rfl rfl (by kernel_rfl) (fun _ _ _ h => h) (Or.inl ⟨by rfl, ?_⟩) ?_ ?_
            rotate_left
            ·intro w'
             go_simp
             with_reducible rfl
            rotate_left
            ·simp only [Act.put, sA, sB, sC, i64_w, i32_w]
             rfl
            refine pure_ (i := 2) (N := some 31) (v := ?_) (a' := ?_) (ba 6 7) rfl rfl (by kernel_rfl) (fun _ _ _ h => h) (Or.inl ⟨by rfl, ?_⟩) ?_ ?_
            rotate_left
            ·intro w'
             go_simp
             with_reducible rfl
            rotate_left
            ·simp only [Act.put, sA, sB, sC, i64_w, i32_w]
             rfl
            refine take_ (i := 3) (N := some 32) (v := ?_) (a' := ?_) (ba 6 15) rfl rfl (by kernel_rfl) (fun _ _ _ h => h) (Or.inl ⟨by rfl, ?_⟩) hHeld ?_ ?_
            rotate_left
            ·rintro w' ⟨s0, s1, s2, s3⟩
             go_simp
             with_reducible rfl
            rotate_left
            ·simp only [Act.put, sA, sB, sC, i64_w, i32_w]
             rfl
            refine take_ (i := 4) (N := some 33) (v := ?_) (a' := ?_) (ba 6 31) rfl rfl (by kernel_rfl) (fun _ _ _ h => h) (Or.inl ⟨by rfl, ?_⟩) hHeld ?_ ?_
            rotate_left
            ·rintro w' ⟨s0, s1, s2, s3⟩
             go_simp
             with_reducible rfl
            rotate_left
            ·simp only [Act.put, sA, sB, sC, i64_w, i32_w]
             rfl
            refine pure_ (i := 5) (N := some 34) (v := ?_) (a' := ?_) (ba 6 63) rfl rfl (by kernel_rfl) (fun _ _ _ h => h) (Or.inl ⟨by rfl, ?_⟩) ?_ ?_
            rotate_left
            ·intro w'
             go_simp
             with_reducible rfl
            rotate_left
            ·simp only [Act.put, sA, sB, sC, i64_w, i32_w]
             rfl
            refine done_ (by kernel_rfl) ?_
            have p353 : 0 ≤ (x7_1 : Int) := oT
            have q353 : x7_1 < (l0.length : Int) := oT
            obtain ⟨ad353, e353, hx353_0, hx353_1⟩ := at_T34 HR0.out x7_1 p353 q353
            obtain rfl : ad352 = ad353 := (by injection e353)
            replace hx353_0 := hs HB.out hx353_0
            replace hx353_1 := hs HB.out hx353_1
            replace p353 := eq_true p353
            replace q353 := eq_true q353
            try go_wp2_with (first | ((with_reducible refine gate_builtin (b := .append) (xs := #[.tmp 35, .tmp 40]) rfl ?_); at_builtin; refine Kd.R_append k34 (w0 := w) w.heap.size rfl (.tmp 35) (.tmp 40) 57 34 (.agg #[(.int .i64 0), (.int .i64 0)]) 16 rfl Try.underlying57 info34 rfl (by decide) (by omega) v350 y349 (⟨(rd_T34 l0 x7_1).f0, (rd_T34 l0 x7_1).f1⟩ : S34) [.int .i64 ((rd_T34 l0 x7_1).f0), .int .i64 ((rd_T34 l0 x7_1).f1)] (fun k_ => k_ ≠ gb343) (fun _ => False) rfl rfl ?aP (fun _ hk => hk.elim) ?aF ?aO ?aB ?aS ?aL ?_; (case aP => exact k34_mkM _ _ _ (⟨(rd_T34 l0 x7_1).f0, (rd_T34 l0 x7_1).f1⟩ : S34)); (case aB => exact (bl)); (case aF => exact (fun k_ hk => Kd.freshB (kl BK343) k_ hk)); (case aO => exact (rl HO351)); (case aS => exact (below_size (bl))); (case aL => have := LMc17.out; omega); intro v355 w21 ho hb hg hat; rw [← Ny354.out] at ho; have HO356 := aM (ho); replace BK343 := aM (blk_grown (kl BK343) hg (Kd.R_away HO351.out (fun _ hk => hk))); replace HB := aM (hb); clear HO351 ho hb hg hat))
            go_roundg kj4
            case measure => have := HK1.out; have := HJ4.out; omega
            case rel => exact ⟨(y354), (true), (wrap64 (x7_1 + 1)), (by first | rfl | (simp; done) | (simp [*]; done)), (by first | rfl | (simp; done) | (simp [*]; done)), H', ⟨by have := HK1.out; have := HJ4.out; omega⟩, ⟨by (with_reducible repeat (first | apply rA | apply rN | apply rD)); exact HO356.out⟩, ⟨by (with_reducible repeat (first | refine kN ?_ _ | refine kD ?_ | refine kA ?_ _)); exact BK343.out⟩, ⟨bl⟩⟩
           ·rw [if_neg c17] at H
            exact absurd H (by simp)
          ·rw [if_neg c16] at H
           have c16b0 : (!(((rd_T34 l0 x7_1).f0) == a1_0) || (!(((rd_T34 l0 x7_1).f1) == a1_1))) = false := by simpa using c16
           clear c16
           have H' := aM H
           clear H
           obtain ⟨hcz22_0, hcz22_1, hfz22_0, hfz22_1⟩ := bc2 BK343
           try go_wp2_with (first | ((with_reducible refine gate_builtin (b := .append) (xs := #[.tmp 25, .tmp 27]) rfl ?_); at_builtin; refine Kd.R_append k34 (w0 := w) w.heap.size rfl (.tmp 25) (.tmp 27) 57 34 (.agg #[(.int .i64 0), (.int .i64 0)]) 16 rfl Try.underlying57 info34 rfl (by decide) (by omega) u5 x5_1 (⟨a1_0, a1_1⟩ : S34) [.int .i64 a1_0, .int .i64 a1_1] (fun k_ => k_ ≠ gb343) (fun _ => False) rfl rfl ?aP (fun _ hk => hk.elim) ?aF ?aO ?aB ?aS ?aL ?_; (case aP => exact k34_mkM _ _ _ (⟨a1_0, a1_1⟩ : S34)); (case aB => exact (bl)); (case aF => exact (fun k_ hk => Kd.freshB (kl BK343) k_ hk)); (case aO => exact (rl HO_5)); (case aS => exact (below_size (bl))); (case aL => have := LMc13.out; omega); intro v350 w23 ho hb hg hat; rw [← Ny349.out] at ho; have HO351 := aM (ho); replace BK343 := aM (blk_grown (kl BK343) hg (Kd.R_away HO_5.out (fun _ hk => hk))); replace HB := aM (hb); clear HO_5 ho hb hg hat))
           replace HO351 := aM (rD HO351.out)
           replace BK343 := aM (kD BK343.out)
           replace HB := aM (bD HB.out)
           have p352 : 0 ≤ (x7_1 : Int) := oT
           have q352 : x7_1 < (l0.length : Int) := oT
           obtain ⟨ad352, e352, hx352_0, hx352_1⟩ := at_T34 HR0.out x7_1 p352 q352
           have hw352_1 := hx352_1
           have hw352_0 := hx352_0
           cases e352
           replace hx352_0 := hs HB.out hx352_0
           replace hx352_1 := hs HB.out hx352_1
           replace p352 := eq_true p352
           replace q352 := eq_true q352
           refine start_ (n := 6) (S := fun w' => w'.cell? ⟨gb343, 0, none⟩ = some (.int .i64 a1_0) ∧ w'.cell? ⟨gb343, 1, none⟩ = some (.int .i64 a1_1) ∧ w'.cell? (ad352.add ((x7_1).toNat * 2)) = some (.int .i64 ((rd_T34 l0 x7_1).f0)) ∧ w'.cell? ⟨(ad352.add ((x7_1).toNat * 2)).block, (ad352.add ((x7_1).toNat * 2)).off + 1, none⟩ = some (.int .i64 ((rd_T34 l0 x7_1).f1))) (ds := []) #[false, false, false, false, false, false] (by kernel_rfl) rfl rfl ⟨(kC BK343.out 0).trans rfl, (kC BK343.out 1).trans rfl, ((HB.out.cell (World.block_lt_of_cell? w _ hw352_0)).trans hw352_0), ((HB.out.cell (World.block_lt_of_cell? w _ hw352_1)).trans hw352_1)⟩ (fun hHeld => ?_)
           generalize w23.drew = w24 at HO351 BK343 HB hx352_0 hx352_1 hHeld ⊢
           refine pure_ (i := 0) (N := some 29) (v := ?_) (a' := ?_) (ba 6 1) rfl rfl (by kernel_rfl) (fun _ _ _ h => h) (Or.inl ⟨by rfl, ?_⟩) ?_ ?_
           rotate_left
           ·intro w'
            go_simp
            with_reducible rfl
           rotate_left
           ·simp only [Act.put, sA, sB, sC, i64_w, i32_w]
            rfl
           refine pure_ (i := 1) (N := some 30) (v := ?_) (a' := ?_) (ba 6 3) rfl rfl (by kernel_rfl) (fun _ _ _ h => h) (Or.inl ⟨by rfl, ?_⟩) ?_ ?_
           rotate_left
           ·intro w'
            go_simp
            with_reducible rfl
           rotate_left
           ·simp only [Act.put, sA, sB, sC, i64_w, i32_w]
            rfl
           refine pure_ (i := 2) (N := some 31) (v := ?_) (a' := ?_) (ba 6 7) rfl rfl (by kernel_rfl) (fun _ _ _ h => h) (Or.inl ⟨by rfl, ?_⟩) ?_ ?_
           rotate_left
           ·intro w'
            go_simp
            with_reducible rfl
           rotate_left
           ·simp only [Act.put, sA, sB, sC, i64_w, i32_w]
            rfl
           refine take_ (i := 3) (N := some 32) (v := ?_) (a' := ?_) (ba 6 15) rfl rfl (by kernel_rfl) (fun _ _ _ h => h) (Or.inl ⟨by rfl, ?_⟩) hHeld ?_ ?_
           rotate_left
           ·rintro w' ⟨s0, s1, s2, s3⟩
            go_simp
            with_reducible rfl
           rotate_left
           ·simp only [Act.put, sA, sB, sC, i64_w, i32_w]
            rfl
           refine take_ (i := 4) (N := some 33) (v := ?_) (a' := ?_) (ba 6 31) rfl rfl (by kernel_rfl) (fun _ _ _ h => h) (Or.inl ⟨by rfl, ?_⟩) hHeld ?_ ?_
           rotate_left
           ·rintro w' ⟨s0, s1, s2, s3⟩
            go_simp
            with_reducible rfl
           rotate_left
           ·simp only [Act.put, sA, sB, sC, i64_w, i32_w]
            rfl
           refine pure_ (i := 5) (N := some 34) (v := ?_) (a' := ?_) (ba 6 63) rfl rfl (by kernel_rfl) (fun _ _ _ h => h) (Or.inl ⟨by rfl, ?_⟩) ?_ ?_
           rotate_left
           ·intro w'
            go_simp
            with_reducible rfl
           rotate_left
           ·simp only [Act.put, sA, sB, sC, i64_w, i32_w]
            rfl
           refine done_ (by kernel_rfl) ?_
           try go_wp2
           go_roundg kj4
           case measure => have := HK1.out; have := HJ4.out; omega
           case rel => exact ⟨(y349), (true), (wrap64 (x7_1 + 1)), (by first | rfl | (simp; done) | (simp [*]; done)), (by first | rfl | (simp; done) | (simp [*]; done)), H', ⟨by have := HK1.out; have := HJ4.out; omega⟩, ⟨by (with_reducible repeat (first | apply rA | apply rN | apply rD)); exact HO351.out⟩, ⟨by (with_reducible repeat (first | refine kN ?_ _ | refine kD ?_ | refine kA ?_ _)); exact BK343.out⟩, ⟨bl⟩⟩
         ·rw [if_neg c15] at H
          exact absurd H (by simp)
        ·rw [if_neg c14] at H
         exact absurd H (by simp)
       ·rw [if_neg c13] at H
        exact absurd H (by simp)
      ·replace c12 := Bool.eq_false_iff.mpr c12
       subst c12
       have H1 : (if 0 ≤ x7_1 then (if x7_1 < (l0.length : Int) then (if (!(((rd_T34 l0 x7_1).f0) == a1_0) || (!(((rd_T34 l0 x7_1).f1) == a1_1))) = true then (if x5_1.length < 8796093022208 then (mapmakerref14_With.l0 kj4 l0 (x5_1 ++ [(⟨(rd_T34 l0 x7_1).f0, (rd_T34 l0 x7_1).f1⟩ : S34)]) x6_1 (wrap64 (x7_1 + 1)) a1_0 a1_1) else (none)) else (mapmakerref14_With.l0 kj4 l0 x5_1 x6_1 (wrap64 (x7_1 + 1)) a1_0 a1_1)) else (none)) else (none)) = some r := by rw [if_neg (show ¬ (false = true) by decide)] at H; exact H
       clear H
       have H := H1
       clear H1
       by_cases c25 : 0 ≤ x7_1
       ·rw [if_pos c25] at H
        have c25b0 : decide (0 ≤ x7_1) = true := decide_eq_true c25
        clear c25
        by_cases c26 : x7_1 < (l0.length : Int)
        ·rw [if_pos c26] at H
         have c26b0 : decide (x7_1 < (l0.length : Int)) = true := decide_eq_true c26
         clear c26
         by_cases c27 : (!(((rd_T34 l0 x7_1).f0) == a1_0) || (!(((rd_T34 l0 x7_1).f1) == a1_1))) = true
         ·rw [if_pos c27] at H
          have c27b0 : (!(((rd_T34 l0 x7_1).f0) == a1_0) || (!(((rd_T34 l0 x7_1).f1) == a1_1))) = true := c27
          clear c27
          by_cases c28 : x5_1.length < 8796093022208
          ·rw [if_pos c28] at H
           have LMc28 := aM c28
           clear c28
           obtain ⟨y359, hy359⟩ : ∃ y_ : List (S34), y_ = (x5_1 ++ [(⟨(rd_T34 l0 x7_1).f0, (rd_T34 l0 x7_1).f1⟩ : S34)]) := ⟨_, rfl⟩
           replace H : (mapmakerref14_With.l0 kj4 l0 y359 x6_1 (wrap64 (x7_1 + 1)) a1_0 a1_1) = some r := by first | (rw [hy359]; with_reducible exact H) | (have H2_ := (Option.bind_some _ _).symm.trans H; rw [hy359]; with_reducible exact H2_) | (have H2_ := (Option.bind_some _ _).symm.trans H; with_reducible exact H2_) | with_reducible exact H | (rw [hy359]; exact H) | exact H
           have Ny359 := aM hy359
           clear hy359
           have H' := aM H
           clear H
           try go_wp2
           replace HO_5 := aM (rD HO_5.out)
           replace BK343 := aM (kD BK343.out)
           replace HB := aM (bD HB.out)
           have p357 : 0 ≤ (x7_1 : Int) := oT
           have q357 : x7_1 < (l0.length : Int) := oT
           obtain ⟨ad357, e357, hx357_0, hx357_1⟩ := at_T34 HR0.out x7_1 p357 q357
           have hw357_1 := hx357_1
           have hw357_0 := hx357_0
           cases e357
           replace hx357_0 := hs HB.out hx357_0
           replace hx357_1 := hs HB.out hx357_1
           replace p357 := eq_true p357
           replace q357 := eq_true q357
           refine start_ (n := 6) (S := fun w' => w'.cell? ⟨gb343, 0, none⟩ = some (.int .i64 a1_0) ∧ w'.cell? ⟨gb343, 1, none⟩ = some (.int .i64 a1_1) ∧ w'.cell? (ad357.add ((x7_1).toNat * 2)) = some (.int .i64 ((rd_T34 l0 x7_1).f0)) ∧ w'.cell? ⟨(ad357.add ((x7_1).toNat * 2)).block, (ad357.add ((x7_1).toNat * 2)).off + 1, none⟩ = some (.int .i64 ((rd_T34 l0 x7_1).f1))) (ds := []) #[false, false, false, false, false, false] (by kernel_rfl) rfl rfl ⟨(kC BK343.out 0).trans rfl, (kC BK343.out 1).trans rfl, ((HB.out.cell (World.block_lt_of_cell? w _ hw357_0)).trans hw357_0), ((HB.out.cell (World.block_lt_of_cell? w _ hw357_1)).trans hw357_1)⟩ (fun hHeld => ?_)
           generalize wc.drew = w29 at HO_5 BK343 HB hx357_0 hx357_1 hHeld ⊢
           refine pure_ (i := 0) (N := some 29) (v := ?_) (a' := ?_) (ba 6 1) rfl rfl (by kernel_rfl) (fun _ _ _ h => h) (Or.inl ⟨by rfl, ?_⟩) ?_ ?_
           rotate_left
           ·intro w'
            go_simp
            with_reducible rfl
           rotate_left
           ·simp only [Act.put, sA, sB, sC, i64_w, i32_w]
            rfl
           refine pure_ (i := 1) (N := some 30) (v := ?_) (a' := ?_) (ba 6 3) rfl rfl (by kernel_rfl) (fun _ _ _ h => h) (Or.inl ⟨by rfl, ?_⟩) ?_ ?_
           rotate_left
           ·intro w'
            go_simp
            with_reducible rfl
           rotate_left
           ·simp only [Act.put, sA, sB, sC, i64_w, i32_w]
            rfl
           refine pure_ (i := 2) (N := some 31) (v := ?_) (a' := ?_) (ba 6 7) rfl rfl (by kernel_rfl) (fun _ _ _ h => h) (Or.inl ⟨by rfl, ?_⟩) ?_ ?_
           rotate_left
           ·intro w'
            go_simp
            with_reducible rfl
           rotate_left
           ·simp only [Act.put, sA, sB, sC, i64_w, i32_w]
            rfl
           refine take_ (i := 3) (N := some 32) (v := ?_) (a' := ?_) (ba 6 15) rfl rfl (by kernel_rfl) (fun _ _ _ h => h) (Or.inl ⟨by rfl, ?_⟩) hHeld ?_ ?_
           rotate_left
           ·rintro w' ⟨s0, s1, s2, s3⟩
            go_simp
            with_reducible rfl
           rotate_left
           ·simp only [Act.put, sA, sB, sC, i64_w, i32_w]
            rfl
           refine take_ (i := 4) (N := some 33) (v := ?_) (a' := ?_) (ba 6 31) rfl rfl (by kernel_rfl) (fun _ _ _ h => h) (Or.inl ⟨by rfl, ?_⟩) hHeld ?_ ?_
           rotate_left
           ·rintro w' ⟨s0, s1, s2, s3⟩
            go_simp
            with_reducible rfl
           rotate_left
           ·simp only [Act.put, sA, sB, sC, i64_w, i32_w]
            rfl
           refine pure_ (i := 5) (N := some 34) (v := ?_) (a' := ?_) (ba 6 63) rfl rfl (by kernel_rfl) (fun _ _ _ h => h) (Or.inl ⟨by rfl, ?_⟩) ?_ ?_
           rotate_left
           ·intro w'
            go_simp
            with_reducible rfl
           rotate_left
           ·simp only [Act.put, sA, sB, sC, i64_w, i32_w]
            rfl
           refine done_ (by kernel_rfl) ?_
           have p358 : 0 ≤ (x7_1 : Int) := oT
           have q358 : x7_1 < (l0.length : Int) := oT
           obtain ⟨ad358, e358, hx358_0, hx358_1⟩ := at_T34 HR0.out x7_1 p358 q358
           obtain rfl : ad357 = ad358 := (by injection e358)
           replace hx358_0 := hs HB.out hx358_0
           replace hx358_1 := hs HB.out hx358_1
           replace p358 := eq_true p358
           replace q358 := eq_true q358
           try go_wp2_with (first | ((with_reducible refine gate_builtin (b := .append) (xs := #[.tmp 35, .tmp 40]) rfl ?_); at_builtin; refine Kd.R_append k34 (w0 := w) w.heap.size rfl (.tmp 35) (.tmp 40) 57 34 (.agg #[(.int .i64 0), (.int .i64 0)]) 16 rfl Try.underlying57 info34 rfl (by decide) (by omega) u5 x5_1 (⟨(rd_T34 l0 x7_1).f0, (rd_T34 l0 x7_1).f1⟩ : S34) [.int .i64 ((rd_T34 l0 x7_1).f0), .int .i64 ((rd_T34 l0 x7_1).f1)] (fun k_ => k_ ≠ gb343) (fun _ => False) rfl rfl ?aP (fun _ hk => hk.elim) ?aF ?aO ?aB ?aS ?aL ?_; (case aP => exact k34_mkM _ _ _ (⟨(rd_T34 l0 x7_1).f0, (rd_T34 l0 x7_1).f1⟩ : S34)); (case aB => exact (bl)); (case aF => exact (fun k_ hk => Kd.freshB (kl BK343) k_ hk)); (case aO => exact (rl HO_5)); (case aS => exact (below_size (bl))); (case aL => have := LMc28.out; omega); intro v360 w30 ho hb hg hat; rw [← Ny359.out] at ho; have HO361 := aM (ho); replace BK343 := aM (blk_grown (kl BK343) hg (Kd.R_away HO_5.out (fun _ hk => hk))); replace HB := aM (hb); clear HO_5 ho hb hg hat))
           go_roundg kj4
           case measure => have := HK1.out; have := HJ4.out; omega
           case rel => exact ⟨(y359), (x6_1), (wrap64 (x7_1 + 1)), (by first | rfl | (simp; done) | (simp [*]; done)), (by first | rfl | (simp; done) | (simp [*]; done)), H', ⟨by have := HK1.out; have := HJ4.out; omega⟩, ⟨by (with_reducible repeat (first | apply rA | apply rN | apply rD)); exact HO361.out⟩, ⟨by (with_reducible repeat (first | refine kN ?_ _ | refine kD ?_ | refine kA ?_ _)); exact BK343.out⟩, ⟨bl⟩⟩
          ·rw [if_neg c28] at H
           exact absurd H (by simp)
         ·rw [if_neg c27] at H
          have c27b0 : (!(((rd_T34 l0 x7_1).f0) == a1_0) || (!(((rd_T34 l0 x7_1).f1) == a1_1))) = false := by simpa using c27
          clear c27
          have H' := aM H
          clear H
          try go_wp2
          replace HO_5 := aM (rD HO_5.out)
          replace BK343 := aM (kD BK343.out)
          replace HB := aM (bD HB.out)
          have p357 : 0 ≤ (x7_1 : Int) := oT
          have q357 : x7_1 < (l0.length : Int) := oT
          obtain ⟨ad357, e357, hx357_0, hx357_1⟩ := at_T34 HR0.out x7_1 p357 q357
          have hw357_1 := hx357_1
          have hw357_0 := hx357_0
          cases e357
          replace hx357_0 := hs HB.out hx357_0
          replace hx357_1 := hs HB.out hx357_1
          replace p357 := eq_true p357
          replace q357 := eq_true q357
          refine start_ (n := 6) (S := fun w' => w'.cell? ⟨gb343, 0, none⟩ = some (.int .i64 a1_0) ∧ w'.cell? ⟨gb343, 1, none⟩ = some (.int .i64 a1_1) ∧ w'.cell? (ad357.add ((x7_1).toNat * 2)) = some (.int .i64 ((rd_T34 l0 x7_1).f0)) ∧ w'.cell? ⟨(ad357.add ((x7_1).toNat * 2)).block, (ad357.add ((x7_1).toNat * 2)).off + 1, none⟩ = some (.int .i64 ((rd_T34 l0 x7_1).f1))) (ds := []) #[false, false, false, false, false, false] (by kernel_rfl) rfl rfl ⟨(kC BK343.out 0).trans rfl, (kC BK343.out 1).trans rfl, ((HB.out.cell (World.block_lt_of_cell? w _ hw357_0)).trans hw357_0), ((HB.out.cell (World.block_lt_of_cell? w _ hw357_1)).trans hw357_1)⟩ (fun hHeld => ?_)
          generalize wc.drew = w31 at HO_5 BK343 HB hx357_0 hx357_1 hHeld ⊢
          refine pure_ (i := 0) (N := some 29) (v := ?_) (a' := ?_) (ba 6 1) rfl rfl (by kernel_rfl) (fun _ _ _ h => h) (Or.inl ⟨by rfl, ?_⟩) ?_ ?_
          rotate_left
          ·intro w'
           go_simp
           with_reducible rfl
          rotate_left
          ·simp only [Act.put, sA, sB, sC, i64_w, i32_w]
           rfl
          refine pure_ (i := 1) (N := some 30) (v := ?_) (a' := ?_) (ba 6 3) rfl rfl (by kernel_rfl) (fun _ _ _ h => h) (Or.inl ⟨by rfl, ?_⟩) ?_ ?_
          rotate_left
          ·intro w'
           go_simp
           with_reducible rfl
          rotate_left
          ·simp only [Act.put, sA, sB, sC, i64_w, i32_w]
           rfl
          refine pure_ (i := 2) (N := some 31) (v := ?_) (a' := ?_) (ba 6 7) rfl rfl (by kernel_rfl) (fun _ _ _ h => h) (Or.inl ⟨by rfl, ?_⟩) ?_ ?_
          rotate_left
          ·intro w'
           go_simp
           with_reducible rfl
          rotate_left
          ·simp only [Act.put, sA, sB, sC, i64_w, i32_w]
           rfl
          refine take_ (i := 3) (N := some 32) (v := ?_) (a' := ?_) (ba 6 15) rfl rfl (by kernel_rfl) (fun _ _ _ h => h) (Or.inl ⟨by rfl, ?_⟩) hHeld ?_ ?_
          rotate_left
          ·rintro w' ⟨s0, s1, s2, s3⟩
           go_simp
           with_reducible rfl
          rotate_left
          ·simp only [Act.put, sA, sB, sC, i64_w, i32_w]
           rfl
          refine take_ (i := 4) (N := some 33) (v := ?_) (a' := ?_) (ba 6 31) rfl rfl (by kernel_rfl) (fun _ _ _ h => h) (Or.inl ⟨by rfl, ?_⟩) hHeld ?_ ?_
          rotate_left
          ·rintro w' ⟨s0, s1, s2, s3⟩
           go_simp
           with_reducible rfl
          rotate_left
          ·simp only [Act.put, sA, sB, sC, i64_w, i32_w]
           rfl
          refine pure_ (i := 5) (N := some 34) (v := ?_) (a' := ?_) (ba 6 63) rfl rfl (by kernel_rfl) (fun _ _ _ h => h) (Or.inl ⟨by rfl, ?_⟩) ?_ ?_
          rotate_left
          ·intro w'
           go_simp
           with_reducible rfl
          rotate_left
          ·simp only [Act.put, sA, sB, sC, i64_w, i32_w]
           rfl
          refine done_ (by kernel_rfl) ?_
          try go_wp2
          go_roundg kj4
          case measure => have := HK1.out; have := HJ4.out; omega
          case rel => exact ⟨(x5_1), (x6_1), (wrap64 (x7_1 + 1)), (by first | rfl | (simp; done) | (simp [*]; done)), (by first | rfl | (simp; done) | (simp [*]; done)), H', ⟨by have := HK1.out; have := HJ4.out; omega⟩, ⟨by (with_reducible repeat (first | apply rA | apply rN | apply rD)); exact HO_5.out⟩, ⟨by (with_reducible repeat (first | refine kN ?_ _ | refine kD ?_ | refine kA ?_ _)); exact BK343.out⟩, ⟨bl⟩⟩
        ·rw [if_neg c26] at H
         exact absurd H (by simp)
       ·rw [if_neg c25] at H
        exact absurd H (by simp)
   ·rw [if_neg c4] at H
    have c4b0 : decide (x7_1 < (l0.length : Int)) = false := decide_eq_false c4
    clear c4
    by_cases c32 : x6_1 = true
    ·subst c32
     have H1 : (some x5_1) = some r := by rw [if_pos rfl] at H; exact H
     clear H
     have H := H1
     clear H1
     obtain rfl := Option.some.inj H
     go_wp2
     go_ret
     exact ⟨_, by first | rfl | (simp [errW_none, errW_some] <;> rfl) | (simp [*, errW_none, errW_some] <;> rfl), by (with_reducible repeat (first | apply rA | apply rN | apply rD)); exact rM HO_5.out (fun _ hk => trivial), bl⟩
    ·replace c32 := Bool.eq_false_iff.mpr c32
     subst c32
     have H1 : (if x5_1.length < 8796093022208 then (some (x5_1 ++ [(⟨a1_0, a1_1⟩ : S34)])) else (none)) = some r := by rw [if_neg (show ¬ (false = true) by decide)] at H; exact H
     clear H
     have H := H1
     clear H1
     by_cases c33 : x5_1.length < 8796093022208
     ·rw [if_pos c33] at H
      have LMc33 := aM c33
      clear c33
      obtain ⟨y344, hy344⟩ : ∃ y_ : List (S34), y_ = (x5_1 ++ [(⟨a1_0, a1_1⟩ : S34)]) := ⟨_, rfl⟩
      replace H : (some y344) = some r := by first | (rw [hy344]; with_reducible exact H) | (have H2_ := (Option.bind_some _ _).symm.trans H; rw [hy344]; with_reducible exact H2_) | (have H2_ := (Option.bind_some _ _).symm.trans H; with_reducible exact H2_) | with_reducible exact H | (rw [hy344]; exact H) | exact H
      have Ny344 := aM hy344
      clear hy344
      obtain rfl := Option.some.inj H
      obtain ⟨hcz34_0, hcz34_1, hfz34_0, hfz34_1⟩ := bc2 BK343
      go_wp2_with (first | ((with_reducible refine gate_builtin (b := .append) (xs := #[.tmp 44, .tmp 46]) rfl ?_); at_builtin; refine Kd.R_append k34 (w0 := w) w.heap.size rfl (.tmp 44) (.tmp 46) 57 34 (.agg #[(.int .i64 0), (.int .i64 0)]) 16 rfl Try.underlying57 info34 rfl (by decide) (by omega) u5 x5_1 (⟨a1_0, a1_1⟩ : S34) [.int .i64 a1_0, .int .i64 a1_1] (fun k_ => k_ ≠ gb343) (fun _ => False) rfl rfl ?aP (fun _ hk => hk.elim) ?aF ?aO ?aB ?aS ?aL ?_; (case aP => exact k34_mkM _ _ _ (⟨a1_0, a1_1⟩ : S34)); (case aB => exact (bl)); (case aF => exact (fun k_ hk => Kd.freshB (kl BK343) k_ hk)); (case aO => exact (rl HO_5)); (case aS => exact (below_size (bl))); (case aL => have := LMc33.out; omega); intro v345 w35 ho hb hg hat; rw [← Ny344.out] at ho; have HO346 := aM (ho); replace BK343 := aM (blk_grown (kl BK343) hg (Kd.R_away HO_5.out (fun _ hk => hk))); replace HB := aM (hb); clear HO_5 ho hb hg hat))
      go_ret
      exact ⟨_, by first | rfl | (simp [errW_none, errW_some] <;> rfl) | (simp [*, errW_none, errW_some] <;> rfl), by (with_reducible repeat (first | apply rA | apply rN | apply rD)); exact rM HO346.out (fun _ hk => trivial), bl⟩
     ·rw [if_neg c33] at H
      exact absurd H (by simp)
end Go.Proofs.Ytgenbepicnbecaa.PAll
