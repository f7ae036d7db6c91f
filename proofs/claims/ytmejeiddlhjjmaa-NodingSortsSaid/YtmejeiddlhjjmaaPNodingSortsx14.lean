-- out of a driver of this session's prover over the kit's print: Lean checks it
import Derived.Test.YtmejeiddlhjjmaaPNodingSortsx0
import Derived.Test.YtmejeiddlhjjmaaPNodingSortsx2
import Derived.Test.YtmejeiddlhjjmaaPNodingSortsx12
import Derived.Test.YtmejeiddlhjjmaaPNodingSortsx13
namespace Go.Proofs.Ytmejeiddlhjjmaa.PNodingSorts
open Go.Proofs.YtmejeiddlhjjmaaG Go.Shelf Go.Lib
open Go.RowKit Go.Proofs.YtmejeiddlhjjmaaW.PrintWords Go.Proofs.YtmejeiddlhjjmaaW.PrintLast Go.Proofs.YtmejeiddlhjjmaaW.PrintMore
attribute [local go_sem] max2_int min2_int max_two min_two max_three min_three max_four min_four   -- for this text's walks alone
set_option linter.unusedVariables false
set_option linter.unusedSimpArgs false
attribute [local go_sem high] eqA35
def mapmakerref20_Sort.l0 : Nat → List (S35) → List (S35) → Int → Option ((List (S35)))
 | 0, _, _, _ => none
 | k + 1, x0, x3, x4 => if x4 < (x0.length : Int) then (if 0 ≤ x4 then ((mapmakerref20_good.f ((rd_T35 x0 x4).f0.f0) ((rd_T35 x0 x4).f0.f1) ((rd_T35 x0 x4).f1.f0) ((rd_T35 x0 x4).f1.f1)).bind fun t281 => (if t281 = true then ((mapmakerref09_Of.f ((rd_T35 x0 x4).f0.f0) ((rd_T35 x0 x4).f0.f1) ((rd_T35 x0 x4).f1.f0) ((rd_T35 x0 x4).f1.f1)).bind fun bt284 => ((mapmakerref20_insert.f k x3 bt284.1 bt284.2.1 bt284.2.2.1 bt284.2.2.2).bind fun t288 => (mapmakerref20_Sort.l0 k x0 t288 (wrap64 (x4 + 1))))) else (mapmakerref20_Sort.l0 k x0 x3 (wrap64 (x4 + 1))))) else (none)) else (some x3)
def mapmakerref20_Sort.f (k : Nat) (l0 : List (S35)) : Option ((List (S35))) := mapmakerref20_Sort.l0 k l0 ([] : List (S35)) 0
theorem mapmakerref20_Sort.mono_l : ∀ k, (∀ y0 y1 y2, LeO (mapmakerref20_Sort.l0 k y0 y1 y2) (mapmakerref20_Sort.l0 (k + 1) y0 y1 y2))
 | 0 => fun _ _ _ r h => by simp [mapmakerref20_Sort.l0] at h
 | k + 1 => by
  have ih0 := mapmakerref20_Sort.mono_l k
  ·intro y0 y1 y2
   unfold mapmakerref20_Sort.l0
   repeat' first
   | (with_reducible exact ih0 _ _ _)
   | (with_reducible exact mapmakerref20_insert.mono _ _ _ _ _ _)
   | (with_reducible exact LeO.refl _)
   | (with_reducible exact LeO.none _)
   | (with_reducible refine LeO.ite ?_ ?_)
   | (with_reducible refine LeO.bind ?_ (fun _ => ?_))
   | exact ih0 _ _ _
   | exact mapmakerref20_insert.mono _ _ _ _ _ _
   | exact LeO.none _
   | refine LeO.ite ?_ ?_
   | refine LeO.bind ?_ (fun _ => ?_)
theorem mapmakerref20_Sort.mono : ∀ a0 k, LeO (mapmakerref20_Sort.f k a0) (mapmakerref20_Sort.f (k + 1) a0) := by
 intro a0 k
 have ih0 := mapmakerref20_Sort.mono_l k
 unfold mapmakerref20_Sort.f
 repeat' first
   | (with_reducible exact ih0 _ _ _)
   | (with_reducible exact mapmakerref20_insert.mono _ _ _ _ _ _)
   | (with_reducible exact LeO.refl _)
   | (with_reducible exact LeO.none _)
   | (with_reducible refine LeO.ite ?_ ?_)
   | (with_reducible refine LeO.bind ?_ (fun _ => ?_))
   | exact ih0 _ _ _
   | exact mapmakerref20_insert.mono _ _ _ _ _ _
   | exact LeO.none _
   | refine LeO.ite ?_ ?_
   | refine LeO.bind ?_ (fun _ => ?_)
def mapmakerref20_Sort.T6 : Bool × List (List Nat × List Nat) := (true, [([], []), ([], []), ([], []), ([1, 2], [1, 2]), ([3], [3]), ([4], [4]), ([], []), ([], []), ([6, 7], [6, 7]), ([8], [8]), ([9], [9]), ([5, 10], [5, 10]), ([0, 11, 11], [0, 11]), ([12, 12, 0, 1, 2, 3, 4, 5, 6, 7, 8, 9, 10, 11, 12], [0, 12])])
def mapmakerref20_Sort.B6 : List Nat := [0, 0, 0, 6, 14, 30, 0, 0, 192, 448, 960, 2046, 4095, 8191]
theorem mapmakerref20_Sort.tab6 : rtab .any (opsOf Try.f14 6) = mapmakerref20_Sort.T6 := by kernel_rfl
theorem mapmakerref20_Sort.bits6 : waitsOk mapmakerref20_Sort.T6.2 mapmakerref20_Sort.B6 = true := by kernel_rfl
set_option maxHeartbeats 8000000 in
set_option maxRecDepth 100000 in
theorem mapmakerref20_Sort.calls (k : Nat) (A0 : Option Addr) (c0 : Nat) (l0 : List (S35)) (r : List (S35)) (w : World) (hr0 : Kd.C k35 w A0 l0.length l0) (hc0 : l0.length ≤ c0) (h : mapmakerref20_Sort.f k l0 = some r) :
  Calls Try.prog 14 #[.slice A0 l0.length c0] w fun e w' => ∃ v0_ : Value, e = .returned (v0_) ∧ Kd.R k35 35 w' w.heap.size (fun _ => True) v0_ r ∧ Below w.heap.size w w' := by
 have hu35 := Try.underlying35
 have hu33 := Try.underlying33
 have HR0 := aM hr0
 have HC0 := aM hc0
 clear hr0 hc0
 have HB := aM (Below.refl w.heap.size w)
 have H : (mapmakerref20_Sort.l0 k l0 ([] : List (S35)) 0) = some r := h
 clear h
 have H' := aM H
 clear H
 go_enter Try.func14, Try.ntmps14
 go_wp2
 go_loopg [3, 4] k (fun kq v3 v4 w' => ∃ (x3_1 : List (S35)) (x4_1 : Int), v4 = .int .i64 x4_1 ∧ Aside0 (mapmakerref20_Sort.l0 kq l0 x3_1 x4_1 = some r) ∧ Aside0 (kq ≤ k) ∧ Aside0 (Kd.R k35 35 w' w.heap.size (fun _ => True) v3 x3_1) ∧ Aside0 (Below w.heap.size w w'))
 case atStart => exact ⟨(([] : List (S35))), (0), (by first | rfl | (simp; done) | (simp [*]; done)), H', ⟨Nat.le_refl _⟩, ⟨by first | exact Kd.R_nil _ _ _ _ _ | exact Kd.N_nil _ _ _ _ _ | exact Kd.V_nil _ _ _ _ _ | exact Kd.Q_nil _ _ _ _ _ | exact Kd.S_nil _ _ _ _ _⟩, ⟨by with_reducible repeat (first | exact HB.out | apply bA | apply bN | apply bD)⟩⟩
 case round =>
  clear H'
  try clear c1
  obtain ⟨x3_1, x4_1, rfl, HA, HK1, HO_3, HB⟩ := hrel
  cases gk with
  | zero => exact absurd HA.out (by simp [mapmakerref20_Sort.l0])
  | succ k1 =>
   have H := HA.out
   clear HA
   simp only [mapmakerref20_Sort.l0] at H
   by_cases c2 : x4_1 < (l0.length : Int)
   ·rw [if_pos c2] at H
    have c2b0 : decide (x4_1 < (l0.length : Int)) = true := decide_eq_true c2
    clear c2
    by_cases c3 : 0 ≤ x4_1
    ·rw [if_pos c3] at H
     have c3b0 : decide (0 ≤ x4_1) = true := decide_eq_true c3
     clear c3
     replace H := Option.bind_eq_some_iff.mp H
     obtain ⟨t281, A40, H⟩ := H
     replace H : (if t281 = true then ((mapmakerref09_Of.f ((rd_T35 l0 x4_1).f0.f0) ((rd_T35 l0 x4_1).f0.f1) ((rd_T35 l0 x4_1).f1.f0) ((rd_T35 l0 x4_1).f1.f1)).bind fun bt284 => ((mapmakerref20_insert.f k1 x3_1 bt284.1 bt284.2.1 bt284.2.2.1 bt284.2.2.2).bind fun t288 => (mapmakerref20_Sort.l0 k1 l0 t288 (wrap64 (x4_1 + 1))))) else (mapmakerref20_Sort.l0 k1 l0 x3_1 (wrap64 (x4_1 + 1)))) = some r := H
     have A4 := aM A40
     clear A40
     by_cases c5 : t281 = true
     ·subst c5
      have H1 : ((mapmakerref09_Of.f ((rd_T35 l0 x4_1).f0.f0) ((rd_T35 l0 x4_1).f0.f1) ((rd_T35 l0 x4_1).f1.f0) ((rd_T35 l0 x4_1).f1.f1)).bind fun bt284 => ((mapmakerref20_insert.f k1 x3_1 bt284.1 bt284.2.1 bt284.2.2.1 bt284.2.2.2).bind fun t288 => (mapmakerref20_Sort.l0 k1 l0 t288 (wrap64 (x4_1 + 1))))) = some r := by rw [if_pos rfl] at H; exact H
      clear H
      have H := H1
      clear H1
      replace H := Option.bind_eq_some_iff.mp H
      obtain ⟨⟨t284, t285, t286, t287⟩, A60, H⟩ := H
      replace H : ((mapmakerref20_insert.f k1 x3_1 t284 t285 t286 t287).bind fun t288 => (mapmakerref20_Sort.l0 k1 l0 t288 (wrap64 (x4_1 + 1)))) = some r := H
      have A6 := aM A60
      clear A60
      replace H := Option.bind_eq_some_iff.mp H
      obtain ⟨t288, A70, H⟩ := H
      replace H : (mapmakerref20_Sort.l0 k1 l0 t288 (wrap64 (x4_1 + 1))) = some r := H
      have A7 := aM A70
      clear A70
      have H' := aM H
      clear H
      have p280 : 0 ≤ (x4_1 : Int) := of_decide_eq_true (by first | (with_reducible assumption) | assumption)
      have q280 : x4_1 < (l0.length : Int) := of_decide_eq_true (by first | (with_reducible assumption) | assumption)
      obtain ⟨ad280, e280, hx280_0, hx280_1, hx280_2, hx280_3⟩ := at_T35 HR0.out x4_1 p280 q280
      cases e280
      replace hx280_0 := (HB.out.cell (World.block_lt_of_cell? w _ hx280_0)).trans hx280_0
      replace hx280_1 := (HB.out.cell (World.block_lt_of_cell? w _ hx280_1)).trans hx280_1
      replace hx280_2 := (HB.out.cell (World.block_lt_of_cell? w _ hx280_2)).trans hx280_2
      replace hx280_3 := (HB.out.cell (World.block_lt_of_cell? w _ hx280_3)).trans hx280_3
      replace p280 := eq_true p280
      replace q280 := eq_true q280
      try go_wp2_with (first | ((with_reducible refine gate_callee (f := 30) rfl ?_); refine goesL_ (some 15) rfl rfl Try.func30 (by kernel_rfl) rfl #[.agg #[.int .i64 ((rd_T35 l0 x4_1).f0.f0), .int .i64 ((rd_T35 l0 x4_1).f0.f1), .int .i64 ((rd_T35 l0 x4_1).f1.f0), .int .i64 ((rd_T35 l0 x4_1).f1.f1)]] rfl (by (try simp only [List.map_toArray, List.map_cons, List.map_nil]); first | done | rfl | (simp only [List.length_drop, List.length_take]; rfl)) ?_; (with_reducible refine (mapmakerref20_good.calls ((rd_T35 l0 x4_1).f0.f0) ((rd_T35 l0 x4_1).f0.f1) ((rd_T35 l0 x4_1).f1.f0) ((rd_T35 l0 x4_1).f1.f1) true _ A4.out).mono ?_); rintro e w8 ⟨rfl, hb⟩; refine ⟨_, rfl, ?_⟩; have n0_ := aM (rB (by (with_reducible repeat (first | apply rA | apply rN | apply rD)); exact HO_3.out) hb); have n1_ := aM (bS (by with_reducible repeat (first | exact HB.out | apply bA | apply bN | apply bD)) hb); clear HO_3; clear HB; have HO_3 := n0_; have HB := n1_; clear n0_ n1_; (try clear hb); (try clear hb2); (try clear hk); (try clear hi)))
      have n0_ := aM (rD HO_3.out)
      have n1_ := aM (bD HB.out)
      clear HO_3
      clear HB
      have HO_3 := n0_
      have HB := n1_
      clear n0_ n1_
      have p282 : 0 ≤ (x4_1 : Int) := of_decide_eq_true (by first | (with_reducible assumption) | assumption)
      have q282 : x4_1 < (l0.length : Int) := of_decide_eq_true (by first | (with_reducible assumption) | assumption)
      obtain ⟨ad282, e282, hx282_0, hx282_1, hx282_2, hx282_3⟩ := at_T35 HR0.out x4_1 p282 q282
      have hw282_3 := hx282_3
      have hw282_2 := hx282_2
      have hw282_1 := hx282_1
      have hw282_0 := hx282_0
      obtain rfl : ad280 = ad282 := (by injection e282)
      replace hx282_0 := (HB.out.cell (World.block_lt_of_cell? w _ hx282_0)).trans hx282_0
      replace hx282_1 := (HB.out.cell (World.block_lt_of_cell? w _ hx282_1)).trans hx282_1
      replace hx282_2 := (HB.out.cell (World.block_lt_of_cell? w _ hx282_2)).trans hx282_2
      replace hx282_3 := (HB.out.cell (World.block_lt_of_cell? w _ hx282_3)).trans hx282_3
      replace p282 := eq_true p282
      replace q282 := eq_true q282
      have p283 : 0 ≤ (x4_1 : Int) := of_decide_eq_true (by first | (with_reducible assumption) | assumption)
      have q283 : x4_1 < (l0.length : Int) := of_decide_eq_true (by first | (with_reducible assumption) | assumption)
      obtain ⟨ad283, e283, hx283_0, hx283_1, hx283_2, hx283_3⟩ := at_T35 HR0.out x4_1 p283 q283
      have hw283_3 := hx283_3
      have hw283_2 := hx283_2
      have hw283_1 := hx283_1
      have hw283_0 := hx283_0
      obtain rfl : ad280 = ad283 := (by injection e283)
      replace hx283_0 := (HB.out.cell (World.block_lt_of_cell? w _ hx283_0)).trans hx283_0
      replace hx283_1 := (HB.out.cell (World.block_lt_of_cell? w _ hx283_1)).trans hx283_1
      replace hx283_2 := (HB.out.cell (World.block_lt_of_cell? w _ hx283_2)).trans hx283_2
      replace hx283_3 := (HB.out.cell (World.block_lt_of_cell? w _ hx283_3)).trans hx283_3
      replace p283 := eq_true p283
      replace q283 := eq_true q283
      refine start_ (n := 14) (S := fun w' => w'.cell? (ad280.add ((x4_1).toNat * 4)) = some (.int .i64 ((rd_T35 l0 x4_1).f0.f0)) ∧ w'.cell? ⟨(ad280.add ((x4_1).toNat * 4)).block, (ad280.add ((x4_1).toNat * 4)).off + 1, none⟩ = some (.int .i64 ((rd_T35 l0 x4_1).f0.f1)) ∧ w'.cell? ⟨(ad280.add ((x4_1).toNat * 4)).block, (ad280.add ((x4_1).toNat * 4)).off + 2, none⟩ = some (.int .i64 ((rd_T35 l0 x4_1).f1.f0)) ∧ w'.cell? ⟨(ad280.add ((x4_1).toNat * 4)).block, (ad280.add ((x4_1).toNat * 4)).off + 3, none⟩ = some (.int .i64 ((rd_T35 l0 x4_1).f1.f1)) ∧ w'.cell? (ad280.add ((x4_1).toNat * 4)) = some (.int .i64 ((rd_T35 l0 x4_1).f0.f0)) ∧ w'.cell? ⟨(ad280.add ((x4_1).toNat * 4)).block, (ad280.add ((x4_1).toNat * 4)).off + 1, none⟩ = some (.int .i64 ((rd_T35 l0 x4_1).f0.f1)) ∧ w'.cell? ⟨(ad280.add ((x4_1).toNat * 4)).block, (ad280.add ((x4_1).toNat * 4)).off + 2, none⟩ = some (.int .i64 ((rd_T35 l0 x4_1).f1.f0)) ∧ w'.cell? ⟨(ad280.add ((x4_1).toNat * 4)).block, (ad280.add ((x4_1).toNat * 4)).off + 3, none⟩ = some (.int .i64 ((rd_T35 l0 x4_1).f1.f1))) (ds := []) #[false, false, false, false, false, false, false, false, false, false, false, false, false, false] (by kernel_rfl) rfl rfl ⟨((HB.out.cell (World.block_lt_of_cell? w _ hw282_0)).trans hw282_0), ((HB.out.cell (World.block_lt_of_cell? w _ hw282_1)).trans hw282_1), ((HB.out.cell (World.block_lt_of_cell? w _ hw282_2)).trans hw282_2), ((HB.out.cell (World.block_lt_of_cell? w _ hw282_3)).trans hw282_3), ((HB.out.cell (World.block_lt_of_cell? w _ hw283_0)).trans hw283_0), ((HB.out.cell (World.block_lt_of_cell? w _ hw283_1)).trans hw283_1), ((HB.out.cell (World.block_lt_of_cell? w _ hw283_2)).trans hw283_2), ((HB.out.cell (World.block_lt_of_cell? w _ hw283_3)).trans hw283_3)⟩ (fun hHeld => ?_); refine with_tabW mapmakerref20_Sort.tab6 mapmakerref20_Sort.bits6 (fun HT_ HW_ => ?_)
      generalize w8.drew = w9 at HO_3 HB hx282_0 hx282_1 hx282_2 hx282_3 hx283_0 hx283_1 hx283_2 hx283_3 hHeld ⊢
      refine pure_ (i := 0) (N := some 16) (v := ?_) (a' := ?_) #[true, false, false, false, false, false, false, false, false, false, false, false, false, false] rfl rfl (any_of HT_.out (by kernel_rfl)) (fun _ _ _ h => h) (Or.inl ⟨by rfl, ?_⟩) ?_ ?_
      rotate_left
      ·intro w'
       go_simp
       with_reducible rfl
      rotate_left
      ·simp only [Act.put, List.setIfInBounds_toArray, List.set_cons_zero, List.set_cons_succ, i64_w, i32_w]
       rfl
      refine pure_ (i := 1) (N := some 17) (v := ?_) (a' := ?_) #[true, true, false, false, false, false, false, false, false, false, false, false, false, false] rfl rfl (any_of HT_.out (by kernel_rfl)) (fun _ _ _ h => h) (Or.inl ⟨by rfl, ?_⟩) ?_ ?_
      rotate_left
      ·intro w'
       go_simp
       with_reducible rfl
      rotate_left
      ·simp only [Act.put, List.setIfInBounds_toArray, List.set_cons_zero, List.set_cons_succ, i64_w, i32_w]
       rfl
      refine pure_ (i := 2) (N := some 18) (v := ?_) (a' := ?_) #[true, true, true, false, false, false, false, false, false, false, false, false, false, false] rfl rfl (any_of HT_.out (by kernel_rfl)) (fun _ _ _ h => h) (Or.inl ⟨by rfl, ?_⟩) ?_ ?_
      rotate_left
      ·intro w'
       go_simp
       with_reducible rfl
      rotate_left
      ·simp only [Act.put, List.setIfInBounds_toArray, List.set_cons_zero, List.set_cons_succ, i64_w, i32_w]
       rfl
      refine pure_ (i := 3) (N := some 19) (v := ?_) (a' := ?_) #[true, true, true, true, false, false, false, false, false, false, false, false, false, false] rfl rfl (any_of HT_.out (by kernel_rfl)) (fun _ _ _ h => h) (Or.inl ⟨by rfl, ?_⟩) ?_ ?_
      rotate_left
      ·intro w'
       go_simp
       with_reducible rfl
      rotate_left
      ·simp only [Act.put, List.setIfInBounds_toArray, List.set_cons_zero, List.set_cons_succ, i64_w, i32_w]
       rfl
      refine pure_ (i := 4) (N := some 20) (v := ?_) (a' := ?_) #[true, true, true, true, true, false, false, false, false, false, false, false, false, false] rfl rfl (any_of HT_.out (by kernel_rfl)) (fun _ _ _ h => h) (Or.inl ⟨by rfl, ?_⟩) ?_ ?_
      rotate_left
      ·intro w'
       go_simp
       with_reducible rfl
      rotate_left
      ·simp only [Act.put, List.setIfInBounds_toArray, List.set_cons_zero, List.set_cons_succ, i64_w, i32_w]
       rfl
      refine pure_ (i := 6) (N := some 22) (v := ?_) (a' := ?_) #[true, true, true, true, true, false, true, false, false, false, false, false, false, false] rfl rfl (any_of HT_.out (by kernel_rfl)) (fun _ _ _ h => h) (Or.inl ⟨by rfl, ?_⟩) ?_ ?_
      rotate_left
      ·intro w'
       go_simp
       with_reducible rfl
      rotate_left
      ·simp only [Act.put, List.setIfInBounds_toArray, List.set_cons_zero, List.set_cons_succ, i64_w, i32_w]
       rfl
      refine pure_ (i := 7) (N := some 23) (v := ?_) (a' := ?_) #[true, true, true, true, true, false, true, true, false, false, false, false, false, false] rfl rfl (any_of HT_.out (by kernel_rfl)) (fun _ _ _ h => h) (Or.inl ⟨by rfl, ?_⟩) ?_ ?_
      rotate_left
      ·intro w'
       go_simp
       with_reducible rfl
      rotate_left
      ·simp only [Act.put, List.setIfInBounds_toArray, List.set_cons_zero, List.set_cons_succ, i64_w, i32_w]
       rfl
      refine pure_ (i := 8) (N := some 24) (v := ?_) (a' := ?_) #[true, true, true, true, true, false, true, true, true, false, false, false, false, false] rfl rfl (any_of HT_.out (by kernel_rfl)) (fun _ _ _ h => h) (Or.inl ⟨by rfl, ?_⟩) ?_ ?_
      rotate_left
      ·intro w'
       go_simp
       with_reducible rfl
      rotate_left
      ·simp only [Act.put, List.setIfInBounds_toArray, List.set_cons_zero, List.set_cons_succ, i64_w, i32_w]
       rfl
      refine pure_ (i := 9) (N := some 25) (v := ?_) (a' := ?_) #[true, true, true, true, true, false, true, true, true, true, false, false, false, false] rfl rfl (any_of HT_.out (by kernel_rfl)) (fun _ _ _ h => h) (Or.inl ⟨by rfl, ?_⟩) ?_ ?_
      rotate_left
      ·intro w'
       go_simp
       with_reducible rfl
      rotate_left
      ·simp only [Act.put, List.setIfInBounds_toArray, List.set_cons_zero, List.set_cons_succ, i64_w, i32_w]
       rfl
      refine take_ (i := 5) (N := some 21) (v := ?_) (a' := ?_) #[true, true, true, true, true, true, true, true, true, true, false, false, false, false] rfl rfl (take_ofW HT_.out HW_.out (by kernel_rfl)) (fun _ _ _ h => h) (Or.inl ⟨by rfl, ?_⟩) hHeld ?_ ?_
      rotate_left
      ·rintro w' ⟨s0, s1, s2, s3, s4, s5, s6, s7⟩
       go_simp
       with_reducible rfl
      rotate_left
      ·simp only [Act.put, List.setIfInBounds_toArray, List.set_cons_zero, List.set_cons_succ, i64_w, i32_w]
       rfl
      refine take_ (i := 10) (N := some 26) (v := ?_) (a' := ?_) #[true, true, true, true, true, true, true, true, true, true, true, false, false, false] rfl rfl (take_ofW HT_.out HW_.out (by kernel_rfl)) (fun _ _ _ h => h) (Or.inl ⟨by rfl, ?_⟩) hHeld ?_ ?_
      rotate_left
      ·rintro w' ⟨s0, s1, s2, s3, s4, s5, s6, s7⟩
       go_simp
       with_reducible rfl
      rotate_left
      ·simp only [Act.put, List.setIfInBounds_toArray, List.set_cons_zero, List.set_cons_succ, i64_w, i32_w]
       rfl
      refine one_ (i := 11) (N := some 27) #[true, true, true, true, true, true, true, true, true, true, true, true, false, false] rfl rfl (one_of HT_.out (by kernel_rfl)) (by decide) (fun K hK => ?_)
      refine goes_ Try.func31 (by kernel_rfl) rfl #[.agg #[.int .i64 ((rd_T35 l0 x4_1).f0.f0), .int .i64 ((rd_T35 l0 x4_1).f0.f1)], .agg #[.int .i64 ((rd_T35 l0 x4_1).f1.f0), .int .i64 ((rd_T35 l0 x4_1).f1.f1)]] (by rfl) rfl rfl (by (try simp only [List.map_toArray, List.map_cons, List.map_nil]); first | done | rfl | (simp only [List.length_drop, List.length_take]; rfl)) ?_
      with_reducible refine (mapmakerref09_Of.calls ((rd_T35 l0 x4_1).f0.f0) ((rd_T35 l0 x4_1).f0.f1) ((rd_T35 l0 x4_1).f1.f0) ((rd_T35 l0 x4_1).f1.f1) t284 t285 t286 t287 _ A6.out).mono ?_
      rintro e w10 ⟨rfl, hb⟩
      refine ⟨_, rfl, ?_⟩
      have n0_ := aM (rB (by (with_reducible repeat (first | apply rA | apply rN | apply rD)); exact HO_3.out) hb)
      have n1_ := aM (bS (by with_reducible repeat (first | exact HB.out | apply bA | apply bN | apply bD)) hb)
      clear HO_3
      clear HB
      have HO_3 := n0_
      have HB := n1_
      clear n0_ n1_
      (try clear hb)
      (try clear hb2)
      (try clear hk)
      (try clear hi)
      obtain ⟨Ao11, co11, eo11⟩ := Kd.R_slice HO_3.out
      (first | subst eo11 | (injection eo11 with f1_ f2_ f3_; have f4_ := f1_.symm; have f5_ := f3_.symm; clear f1_ f2_ f3_; subst f4_; subst f5_))
      refine hK.out _ _ ⟨((HB.out.cell (World.block_lt_of_cell? w _ hw282_0)).trans hw282_0), ((HB.out.cell (World.block_lt_of_cell? w _ hw282_1)).trans hw282_1), ((HB.out.cell (World.block_lt_of_cell? w _ hw282_2)).trans hw282_2), ((HB.out.cell (World.block_lt_of_cell? w _ hw282_3)).trans hw282_3), ((HB.out.cell (World.block_lt_of_cell? w _ hw283_0)).trans hw283_0), ((HB.out.cell (World.block_lt_of_cell? w _ hw283_1)).trans hw283_1), ((HB.out.cell (World.block_lt_of_cell? w _ hw283_2)).trans hw283_2), ((HB.out.cell (World.block_lt_of_cell? w _ hw283_3)).trans hw283_3)⟩ (fun hHeld => ?_)
      clear hK K
      refine norm_ (a' := ?_) ?_ ?_
      rotate_left
      ·show Act.put _ (some 27) _ = _
       simp only [Act.put, List.setIfInBounds_toArray, List.set_cons_zero, List.set_cons_succ, i64_w, i32_w]
       rfl
      refine one_ (i := 12) (N := some 28) #[true, true, true, true, true, true, true, true, true, true, true, true, true, false] rfl rfl (one_of HT_.out (by kernel_rfl)) (by decide) (fun K hK => ?_)
      refine goes_ Try.func34 (by kernel_rfl) rfl #[.slice Ao11 x3_1.length co11, .agg #[.int .i64 t284, .int .i64 t285, .int .i64 t286, .int .i64 t287]] (by rfl) rfl rfl (by (try simp only [List.map_toArray, List.map_cons, List.map_nil]); first | done | rfl | (simp only [List.length_drop, List.length_take]; rfl)) ?_
      with_reducible refine (mapmakerref20_insert.calls k1 _ _ x3_1 t284 t285 t286 t287 t288 _ ?side1 ?side2 A7.out).mono ?_
      (case side1 => repeat (first | exact (rR HO_3.out).2.2 | (with_reducible refine cA ?_ _) | (with_reducible refine cN ?_ _) | (with_reducible refine cD ?_)))
      (case side2 => exact (rR HO_3.out).2.1)
      rintro e w12 ⟨v289, rfl, ho0, hb⟩
      refine ⟨_, rfl, ?_⟩
      have n0_ := aM (rE (by (with_reducible repeat (first | apply rA | apply rN | apply rD)); exact HO_3.out) (Kd.R_base ho0) hb)
      have n1_ := aM (Kd.R_lower (Kd.R_new' ho0 (Kd.R_lt (by (with_reducible repeat (first | apply rA | apply rN | apply rD)); exact HO_3.out))) (below_size (by with_reducible repeat (first | exact HB.out | apply bA | apply bN | apply bD))))
      have n2_ := aM (bS (by with_reducible repeat (first | exact HB.out | apply bA | apply bN | apply bD)) hb)
      clear HO_3
      clear HB
      have HO_3 := n0_
      have HO290 := n1_
      have HB := n2_
      clear n0_ n1_ n2_
      (try clear hb)
      (try clear hb2)
      (try clear hk)
      (try clear hi)
      (try clear ho0)
      refine hK.out _ _ ⟨((HB.out.cell (World.block_lt_of_cell? w _ hw282_0)).trans hw282_0), ((HB.out.cell (World.block_lt_of_cell? w _ hw282_1)).trans hw282_1), ((HB.out.cell (World.block_lt_of_cell? w _ hw282_2)).trans hw282_2), ((HB.out.cell (World.block_lt_of_cell? w _ hw282_3)).trans hw282_3), ((HB.out.cell (World.block_lt_of_cell? w _ hw283_0)).trans hw283_0), ((HB.out.cell (World.block_lt_of_cell? w _ hw283_1)).trans hw283_1), ((HB.out.cell (World.block_lt_of_cell? w _ hw283_2)).trans hw283_2), ((HB.out.cell (World.block_lt_of_cell? w _ hw283_3)).trans hw283_3)⟩ (fun hHeld => ?_)
      clear hK K
      refine norm_ (a' := ?_) ?_ ?_
      rotate_left
      ·show Act.put _ (some 28) _ = _
       simp only [Act.put, List.setIfInBounds_toArray, List.set_cons_zero, List.set_cons_succ, i64_w, i32_w]
       rfl
      refine pure_ (i := 13) (N := some 3) (v := ?_) (a' := ?_) #[true, true, true, true, true, true, true, true, true, true, true, true, true, true] rfl rfl (any_of HT_.out (by kernel_rfl)) (fun _ _ _ h => h) (Or.inl ⟨by rfl, ?_⟩) ?_ ?_
      rotate_left
      ·intro w'
       go_simp
       with_reducible rfl
      rotate_left
      ·simp only [Act.put, List.setIfInBounds_toArray, List.set_cons_zero, List.set_cons_succ, i64_w, i32_w]
       rfl
      refine done_ (done_of HT_.out (by kernel_rfl)) ?_
      try go_wp2
      go_roundg k1
      case measure => have := HK1.out; omega
      case rel => exact ⟨(t288), (wrap64 (x4_1 + 1)), (by first | rfl | (simp; done) | (simp [*]; done)), H', ⟨by have := HK1.out; omega⟩, ⟨by (with_reducible repeat (first | apply rA | apply rN | apply rD)); exact rM HO290.out (fun _ hk => trivial)⟩, ⟨by with_reducible repeat (first | exact HB.out | apply bA | apply bN | apply bD)⟩⟩
     ·replace c5 := Bool.eq_false_iff.mpr c5
      subst c5
      have H1 : (mapmakerref20_Sort.l0 k1 l0 x3_1 (wrap64 (x4_1 + 1))) = some r := by rw [if_neg (show ¬ (false = true) by decide)] at H; exact H
      clear H
      have H := H1
      clear H1
      have H' := aM H
      clear H
      have p280 : 0 ≤ (x4_1 : Int) := of_decide_eq_true (by first | (with_reducible assumption) | assumption)
      have q280 : x4_1 < (l0.length : Int) := of_decide_eq_true (by first | (with_reducible assumption) | assumption)
      obtain ⟨ad280, e280, hx280_0, hx280_1, hx280_2, hx280_3⟩ := at_T35 HR0.out x4_1 p280 q280
      cases e280
      replace hx280_0 := (HB.out.cell (World.block_lt_of_cell? w _ hx280_0)).trans hx280_0
      replace hx280_1 := (HB.out.cell (World.block_lt_of_cell? w _ hx280_1)).trans hx280_1
      replace hx280_2 := (HB.out.cell (World.block_lt_of_cell? w _ hx280_2)).trans hx280_2
      replace hx280_3 := (HB.out.cell (World.block_lt_of_cell? w _ hx280_3)).trans hx280_3
      replace p280 := eq_true p280
      replace q280 := eq_true q280
      go_wp2_with (first | ((with_reducible refine gate_callee (f := 30) rfl ?_); refine goesL_ (some 15) rfl rfl Try.func30 (by kernel_rfl) rfl #[.agg #[.int .i64 ((rd_T35 l0 x4_1).f0.f0), .int .i64 ((rd_T35 l0 x4_1).f0.f1), .int .i64 ((rd_T35 l0 x4_1).f1.f0), .int .i64 ((rd_T35 l0 x4_1).f1.f1)]] rfl (by (try simp only [List.map_toArray, List.map_cons, List.map_nil]); first | done | rfl | (simp only [List.length_drop, List.length_take]; rfl)) ?_; (with_reducible refine (mapmakerref20_good.calls ((rd_T35 l0 x4_1).f0.f0) ((rd_T35 l0 x4_1).f0.f1) ((rd_T35 l0 x4_1).f1.f0) ((rd_T35 l0 x4_1).f1.f1) false _ A4.out).mono ?_); rintro e w13 ⟨rfl, hb⟩; refine ⟨_, rfl, ?_⟩; have n0_ := aM (rB (by (with_reducible repeat (first | apply rA | apply rN | apply rD)); exact HO_3.out) hb); have n1_ := aM (bS (by with_reducible repeat (first | exact HB.out | apply bA | apply bN | apply bD)) hb); clear HO_3; clear HB; have HO_3 := n0_; have HB := n1_; clear n0_ n1_; (try clear hb); (try clear hb2); (try clear hk); (try clear hi)))
      go_roundg k1
      case measure => have := HK1.out; omega
      case rel => exact ⟨(x3_1), (wrap64 (x4_1 + 1)), (by first | rfl | (simp; done) | (simp [*]; done)), H', ⟨by have := HK1.out; omega⟩, ⟨by (with_reducible repeat (first | apply rA | apply rN | apply rD)); exact HO_3.out⟩, ⟨by with_reducible repeat (first | exact HB.out | apply bA | apply bN | apply bD)⟩⟩
    ·rw [if_neg c3] at H
     exact absurd H (by simp)
   ·rw [if_neg c2] at H
    have c2b0 : decide (x4_1 < (l0.length : Int)) = false := decide_eq_false c2
    clear c2
    obtain rfl := Option.some.inj H
    go_wp2
    go_ret
    exact ⟨_, by first | rfl | (simp [errW_none, errW_some] <;> rfl) | (simp [*, errW_none, errW_some] <;> rfl), by (with_reducible repeat (first | apply rA | apply rN | apply rD)); exact HO_3.out, by with_reducible repeat (first | exact HB.out | apply bA | apply bN | apply bD)⟩
def mapmakerref20_Unique.l0 : Nat → List (S35) → List (S35) → Int → Option ((List (S35)))
 | 0, _, _, _ => none
 | k + 1, x3, x4, x5 => if x5 < (x3.length : Int) then (if x5 = 0 then (if 0 ≤ x5 then (if x4.length < 4398046511104 then (mapmakerref20_Unique.l0 k x3 (x4 ++ [(⟨(⟨(rd_T35 x3 x5).f0.f0, (rd_T35 x3 x5).f0.f1⟩ : S33), (⟨(rd_T35 x3 x5).f1.f0, (rd_T35 x3 x5).f1.f1⟩ : S33)⟩ : S35)]) (wrap64 (x5 + 1))) else (none)) else (none)) else (if 0 ≤ x5 then (if 0 ≤ (wrap64 (x5 - 1)) then (if (wrap64 (x5 - 1)) < (x3.length : Int) then (if ((!(((rd_T35 x3 x5).f0.f0) == ((rd_T35 x3 (wrap64 (x5 - 1))).f0.f0)) || (!(((rd_T35 x3 x5).f0.f1) == ((rd_T35 x3 (wrap64 (x5 - 1))).f0.f1)))) || ((!(((rd_T35 x3 x5).f1.f0) == ((rd_T35 x3 (wrap64 (x5 - 1))).f1.f0)) || (!(((rd_T35 x3 x5).f1.f1) == ((rd_T35 x3 (wrap64 (x5 - 1))).f1.f1)))))) = true then (if x4.length < 4398046511104 then (mapmakerref20_Unique.l0 k x3 (x4 ++ [(⟨(⟨(rd_T35 x3 x5).f0.f0, (rd_T35 x3 x5).f0.f1⟩ : S33), (⟨(rd_T35 x3 x5).f1.f0, (rd_T35 x3 x5).f1.f1⟩ : S33)⟩ : S35)]) (wrap64 (x5 + 1))) else (none)) else (mapmakerref20_Unique.l0 k x3 x4 (wrap64 (x5 + 1)))) else (none)) else (none)) else (none))) else (some x4)
def mapmakerref20_Unique.f (k : Nat) (l0 : List (S35)) : Option ((List (S35))) := (mapmakerref20_Sort.f k l0).bind fun t291 => (mapmakerref20_Unique.l0 k t291 ([] : List (S35)) 0)
theorem mapmakerref20_Unique.mono_l : ∀ k, (∀ y0 y1 y2, LeO (mapmakerref20_Unique.l0 k y0 y1 y2) (mapmakerref20_Unique.l0 (k + 1) y0 y1 y2))
 | 0 => fun _ _ _ r h => by simp [mapmakerref20_Unique.l0] at h
 | k + 1 => by
  have ih0 := mapmakerref20_Unique.mono_l k
  ·intro y0 y1 y2
   unfold mapmakerref20_Unique.l0
   repeat' first
   | (with_reducible exact ih0 _ _ _)
   | (with_reducible exact mapmakerref20_Sort.mono _ _)
   | (with_reducible exact LeO.refl _)
   | (with_reducible exact LeO.none _)
   | (with_reducible refine LeO.ite ?_ ?_)
   | (with_reducible refine LeO.bind ?_ (fun _ => ?_))
   | exact ih0 _ _ _
   | exact mapmakerref20_Sort.mono _ _
   | exact LeO.none _
   | refine LeO.ite ?_ ?_
   | refine LeO.bind ?_ (fun _ => ?_)
theorem mapmakerref20_Unique.mono : ∀ a0 k, LeO (mapmakerref20_Unique.f k a0) (mapmakerref20_Unique.f (k + 1) a0) := by
 intro a0 k
 have ih0 := mapmakerref20_Unique.mono_l k
 unfold mapmakerref20_Unique.f
 repeat' first
   | (with_reducible exact ih0 _ _ _)
   | (with_reducible exact mapmakerref20_Sort.mono _ _)
   | (with_reducible exact LeO.refl _)
   | (with_reducible exact LeO.none _)
   | (with_reducible refine LeO.ite ?_ ?_)
   | (with_reducible refine LeO.bind ?_ (fun _ => ?_))
   | exact ih0 _ _ _
   | exact mapmakerref20_Sort.mono _ _
   | exact LeO.none _
   | refine LeO.ite ?_ ?_
   | refine LeO.bind ?_ (fun _ => ?_)
set_option maxHeartbeats 8000000 in
set_option maxRecDepth 100000 in
theorem mapmakerref20_Unique.calls (k : Nat) (A0 : Option Addr) (c0 : Nat) (l0 : List (S35)) (r : List (S35)) (w : World) (hr0 : Kd.C k35 w A0 l0.length l0) (hc0 : l0.length ≤ c0) (h : mapmakerref20_Unique.f k l0 = some r) :
  Calls Try.prog 16 #[.slice A0 l0.length c0] w fun e w' => ∃ v0_ : Value, e = .returned (v0_) ∧ Kd.R k35 35 w' w.heap.size (fun _ => True) v0_ r ∧ Below w.heap.size w w' := by
 have hu35 := Try.underlying35
 have HR0 := aM hr0
 have HC0 := aM hc0
 clear hr0 hc0
 have HB := aM (Below.refl w.heap.size w)
 have H : ((mapmakerref20_Sort.f k l0).bind fun t291 => (mapmakerref20_Unique.l0 k t291 ([] : List (S35)) 0)) = some r := h
 clear h
 replace H := Option.bind_eq_some_iff.mp H
 obtain ⟨t291, A20, H⟩ := H
 replace H : (mapmakerref20_Unique.l0 k t291 ([] : List (S35)) 0) = some r := H
 have A2 := aM A20
 clear A20
 have H' := aM H
 clear H
 go_enter Try.func16, Try.ntmps16
 go_wp2_with (first | (go_at_call 14; (with_reducible refine (mapmakerref20_Sort.calls k _ _ l0 t291 _ ?side1 ?side2 A2.out).mono ?_); (case side1 => repeat (first | exact HR0.out | (with_reducible refine cA ?_ _) | (with_reducible refine cN ?_ _) | (with_reducible refine cD ?_))); (case side2 => exact HC0.out); rintro e w3 ⟨v292, rfl, ho0, hb⟩; have n0_ := aM (Kd.R_lower ho0 (below_size (by with_reducible repeat (first | exact HB.out | apply bA | apply bN | apply bD)))); have n1_ := aM (bS (by with_reducible repeat (first | exact HB.out | apply bA | apply bN | apply bD)) hb); clear HB; have HO293 := n0_; have HB := n1_; clear n0_ n1_; (try clear hb); (try clear hb2); (try clear hk); (try clear hi); (try clear ho0)))
 repeat (go_quiet (first | (go_at_call 14; (with_reducible refine (mapmakerref20_Sort.calls k _ _ l0 t291 _ ?side1 ?side2 A2.out).mono ?_); (case side1 => repeat (first | exact HR0.out | (with_reducible refine cA ?_ _) | (with_reducible refine cN ?_ _) | (with_reducible refine cD ?_))); (case side2 => exact HC0.out); rintro e w3 ⟨v292, rfl, ho0, hb⟩; have n0_ := aM (Kd.R_lower ho0 (below_size (by with_reducible repeat (first | exact HB.out | apply bA | apply bN | apply bD)))); have n1_ := aM (bS (by with_reducible repeat (first | exact HB.out | apply bA | apply bN | apply bD)) hb); clear HB; have HO293 := n0_; have HB := n1_; clear n0_ n1_; (try clear hb); (try clear hb2); (try clear hk); (try clear hi); (try clear ho0))); try go_wp2_with (first | (go_at_call 14; (with_reducible refine (mapmakerref20_Sort.calls k _ _ l0 t291 _ ?side1 ?side2 A2.out).mono ?_); (case side1 => repeat (first | exact HR0.out | (with_reducible refine cA ?_ _) | (with_reducible refine cN ?_ _) | (with_reducible refine cD ?_))); (case side2 => exact HC0.out); rintro e w3 ⟨v292, rfl, ho0, hb⟩; have n0_ := aM (Kd.R_lower ho0 (below_size (by with_reducible repeat (first | exact HB.out | apply bA | apply bN | apply bD)))); have n1_ := aM (bS (by with_reducible repeat (first | exact HB.out | apply bA | apply bN | apply bD)) hb); clear HB; have HO293 := n0_; have HB := n1_; clear n0_ n1_; (try clear hb); (try clear hb2); (try clear hk); (try clear hi); (try clear ho0))))
 go_loopg [4, 5] k (fun kq v4 v5 w' => ∃ (x4_1 : List (S35)) (x5_1 : Int), v5 = .int .i64 x5_1 ∧ Aside0 (mapmakerref20_Unique.l0 kq t291 x4_1 x5_1 = some r) ∧ Aside0 (kq ≤ k) ∧ Aside0 (Kd.R k35 35 w' w.heap.size (fun k_ => some k_ ≠ (v4 : Value).ownBlock) v292 t291) ∧ Aside0 (Kd.R k35 35 w' w.heap.size (fun k_ => some k_ ≠ (v292 : Value).ownBlock) v4 x4_1) ∧ Aside0 (Below w.heap.size w w'))
 case atStart => exact ⟨(([] : List (S35))), (0), (by first | rfl | (simp; done) | (simp [*]; done)), H', ⟨Nat.le_refl _⟩, ⟨by (with_reducible repeat (first | apply rA | apply rN | apply rD)); exact rM HO293.out (fun _ hk => (by simp [Value.ownBlock]))⟩, ⟨by first | exact Kd.R_nil _ _ _ _ _ | exact Kd.N_nil _ _ _ _ _ | exact Kd.V_nil _ _ _ _ _ | exact Kd.Q_nil _ _ _ _ _ | exact Kd.S_nil _ _ _ _ _⟩, ⟨by with_reducible repeat (first | exact HB.out | apply bA | apply bN | apply bD)⟩⟩
 case round =>
  clear H'
  try clear c1
  try clear p2
  obtain ⟨x4_1, x5_1, rfl, HA, HK1, HO_3, HO_4, HB⟩ := hrel
  cases gk with
  | zero => exact absurd HA.out (by simp [mapmakerref20_Unique.l0])
  | succ k1 =>
   have H := HA.out
   clear HA
   simp only [mapmakerref20_Unique.l0] at H
   by_cases c4 : x5_1 < (t291.length : Int)
   ·rw [if_pos c4] at H
    have c4b0 : decide (x5_1 < (t291.length : Int)) = true := decide_eq_true c4
    clear c4
    by_cases c5 : x5_1 = 0
    ·rw [if_pos c5] at H
     have c5b0 : (x5_1 == 0) = true := beq_iff_eq.mpr c5
     have c5b1 : (x5_1 != 0) = false := bne_eq_false_iff_eq.mpr c5
     clear c5
     by_cases c6 : 0 ≤ x5_1
     ·rw [if_pos c6] at H
      have c6b0 : decide (0 ≤ x5_1) = true := decide_eq_true c6
      clear c6
      by_cases c7 : x4_1.length < 4398046511104
      ·rw [if_pos c7] at H
       have LMc7 := aM c7
       clear c7
       obtain ⟨y295, hy295⟩ : ∃ y_ : List (S35), y_ = (x4_1 ++ [(⟨(⟨(rd_T35 t291 x5_1).f0.f0, (rd_T35 t291 x5_1).f0.f1⟩ : S33), (⟨(rd_T35 t291 x5_1).f1.f0, (rd_T35 t291 x5_1).f1.f1⟩ : S33)⟩ : S35)]) := ⟨_, rfl⟩
       replace H : (mapmakerref20_Unique.l0 k1 t291 y295 (wrap64 (x5_1 + 1))) = some r := by first | (rw [hy295]; with_reducible exact H) | (have H2_ := (Option.bind_some _ _).symm.trans H; rw [hy295]; with_reducible exact H2_) | (have H2_ := (Option.bind_some _ _).symm.trans H; with_reducible exact H2_) | with_reducible exact H | (rw [hy295]; exact H) | exact H
       have Ny295 := aM hy295
       clear hy295
       have H' := aM H
       clear H
       obtain ⟨Ao8, co8, eo8⟩ := Kd.R_slice HO_3.out
       subst eo8
       have p294 : 0 ≤ (x5_1 : Int) := of_decide_eq_true (by first | (with_reducible assumption) | assumption)
       have q294 : x5_1 < (t291.length : Int) := of_decide_eq_true (by first | (with_reducible assumption) | assumption)
       obtain ⟨ad294, e294, hx294_0, hx294_1, hx294_2, hx294_3⟩ := at_T35 (rR HO_3.out).2.2 x5_1 p294 q294
       cases e294
       replace p294 := eq_true p294
       replace q294 := eq_true q294
       go_wp2_with (first | ((with_reducible refine gate_builtin (b := .append) (xs := #[.tmp 28, .tmp 33]) rfl ?_); at_builtin; refine Kd.R_append k35 (w0 := w) w.heap.size rfl (.tmp 28) (.tmp 33) 23 35 (.agg #[(.int .i64 0), (.int .i64 0), (.int .i64 0), (.int .i64 0)]) 32 rfl Try.underlying23 info35 rfl (by decide) (by omega) u4 x4_1 (⟨(⟨(rd_T35 t291 x5_1).f0.f0, (rd_T35 t291 x5_1).f0.f1⟩ : S33), (⟨(rd_T35 t291 x5_1).f1.f0, (rd_T35 t291 x5_1).f1.f1⟩ : S33)⟩ : S35) [.int .i64 ((rd_T35 t291 x5_1).f0.f0), .int .i64 ((rd_T35 t291 x5_1).f0.f1), .int .i64 ((rd_T35 t291 x5_1).f1.f0), .int .i64 ((rd_T35 t291 x5_1).f1.f1)] (fun k_ => some k_ ≠ (.slice (some ad294) t291.length co8 : Value).ownBlock) (fun _ => False) rfl rfl ?aP (fun _ hk => hk.elim) ?aF ?aO ?aB ?aS ?aL ?_; (case aP => exact k35_mkM _ _ _ (⟨(⟨(rd_T35 t291 x5_1).f0.f0, (rd_T35 t291 x5_1).f0.f1⟩ : S33), (⟨(rd_T35 t291 x5_1).f1.f0, (rd_T35 t291 x5_1).f1.f1⟩ : S33)⟩ : S35)); (case aB => exact (by with_reducible repeat (first | exact HB.out | apply bA | apply bN | apply bD))); (case aF => exact (fun k_ hk => Kd.fresh' (Kd.R_lt (by (with_reducible repeat (first | apply rA | apply rN | apply rD)); exact HO_3.out)) k_ hk)); (case aO => exact (by (with_reducible repeat (first | apply rA | apply rN | apply rD)); exact HO_4.out)); (case aS => exact (below_size (by with_reducible repeat (first | exact HB.out | apply bA | apply bN | apply bD)))); (case aL => have := LMc7.out; omega); intro v296 w9 ho hb hg hat; rw [← Ny295.out] at ho; have n0_ := aM (Kd.R_after (ok := (fun _ => True)) (by (with_reducible repeat (first | apply rA | apply rN | apply rD)); exact rM HO_3.out (fun _ hk => ⟨trivial, hk⟩)) hg hat); have n1_ := aM (hb); have n2_ := aM (ho); clear HO_3; clear HB; clear HO_4; have HO_3 := n0_; have HB := n1_; have HO297 := n2_; clear n0_ n1_ n2_; clear ho hb hg hat))
       repeat (go_quiet (first | ((with_reducible refine gate_builtin (b := .append) (xs := #[.tmp 28, .tmp 33]) rfl ?_); at_builtin; refine Kd.R_append k35 (w0 := w) w.heap.size rfl (.tmp 28) (.tmp 33) 23 35 (.agg #[(.int .i64 0), (.int .i64 0), (.int .i64 0), (.int .i64 0)]) 32 rfl Try.underlying23 info35 rfl (by decide) (by omega) u4 x4_1 (⟨(⟨(rd_T35 t291 x5_1).f0.f0, (rd_T35 t291 x5_1).f0.f1⟩ : S33), (⟨(rd_T35 t291 x5_1).f1.f0, (rd_T35 t291 x5_1).f1.f1⟩ : S33)⟩ : S35) [.int .i64 ((rd_T35 t291 x5_1).f0.f0), .int .i64 ((rd_T35 t291 x5_1).f0.f1), .int .i64 ((rd_T35 t291 x5_1).f1.f0), .int .i64 ((rd_T35 t291 x5_1).f1.f1)] (fun k_ => some k_ ≠ (.slice (some ad294) t291.length co8 : Value).ownBlock) (fun _ => False) rfl rfl ?aP (fun _ hk => hk.elim) ?aF ?aO ?aB ?aS ?aL ?_; (case aP => exact k35_mkM _ _ _ (⟨(⟨(rd_T35 t291 x5_1).f0.f0, (rd_T35 t291 x5_1).f0.f1⟩ : S33), (⟨(rd_T35 t291 x5_1).f1.f0, (rd_T35 t291 x5_1).f1.f1⟩ : S33)⟩ : S35)); (case aB => exact (by with_reducible repeat (first | exact HB.out | apply bA | apply bN | apply bD))); (case aF => exact (fun k_ hk => Kd.fresh' (Kd.R_lt (by (with_reducible repeat (first | apply rA | apply rN | apply rD)); exact HO_3.out)) k_ hk)); (case aO => exact (by (with_reducible repeat (first | apply rA | apply rN | apply rD)); exact HO_4.out)); (case aS => exact (below_size (by with_reducible repeat (first | exact HB.out | apply bA | apply bN | apply bD)))); (case aL => have := LMc7.out; omega); intro v296 w9 ho hb hg hat; rw [← Ny295.out] at ho; have n0_ := aM (Kd.R_after (ok := (fun _ => True)) (by (with_reducible repeat (first | apply rA | apply rN | apply rD)); exact rM HO_3.out (fun _ hk => ⟨trivial, hk⟩)) hg hat); have n1_ := aM (hb); have n2_ := aM (ho); clear HO_3; clear HB; clear HO_4; have HO_3 := n0_; have HB := n1_; have HO297 := n2_; clear n0_ n1_ n2_; clear ho hb hg hat)); try go_wp2_with (first | ((with_reducible refine gate_builtin (b := .append) (xs := #[.tmp 28, .tmp 33]) rfl ?_); at_builtin; refine Kd.R_append k35 (w0 := w) w.heap.size rfl (.tmp 28) (.tmp 33) 23 35 (.agg #[(.int .i64 0), (.int .i64 0), (.int .i64 0), (.int .i64 0)]) 32 rfl Try.underlying23 info35 rfl (by decide) (by omega) u4 x4_1 (⟨(⟨(rd_T35 t291 x5_1).f0.f0, (rd_T35 t291 x5_1).f0.f1⟩ : S33), (⟨(rd_T35 t291 x5_1).f1.f0, (rd_T35 t291 x5_1).f1.f1⟩ : S33)⟩ : S35) [.int .i64 ((rd_T35 t291 x5_1).f0.f0), .int .i64 ((rd_T35 t291 x5_1).f0.f1), .int .i64 ((rd_T35 t291 x5_1).f1.f0), .int .i64 ((rd_T35 t291 x5_1).f1.f1)] (fun k_ => some k_ ≠ (.slice (some ad294) t291.length co8 : Value).ownBlock) (fun _ => False) rfl rfl ?aP (fun _ hk => hk.elim) ?aF ?aO ?aB ?aS ?aL ?_; (case aP => exact k35_mkM _ _ _ (⟨(⟨(rd_T35 t291 x5_1).f0.f0, (rd_T35 t291 x5_1).f0.f1⟩ : S33), (⟨(rd_T35 t291 x5_1).f1.f0, (rd_T35 t291 x5_1).f1.f1⟩ : S33)⟩ : S35)); (case aB => exact (by with_reducible repeat (first | exact HB.out | apply bA | apply bN | apply bD))); (case aF => exact (fun k_ hk => Kd.fresh' (Kd.R_lt (by (with_reducible repeat (first | apply rA | apply rN | apply rD)); exact HO_3.out)) k_ hk)); (case aO => exact (by (with_reducible repeat (first | apply rA | apply rN | apply rD)); exact HO_4.out)); (case aS => exact (below_size (by with_reducible repeat (first | exact HB.out | apply bA | apply bN | apply bD)))); (case aL => have := LMc7.out; omega); intro v296 w9 ho hb hg hat; rw [← Ny295.out] at ho; have n0_ := aM (Kd.R_after (ok := (fun _ => True)) (by (with_reducible repeat (first | apply rA | apply rN | apply rD)); exact rM HO_3.out (fun _ hk => ⟨trivial, hk⟩)) hg hat); have n1_ := aM (hb); have n2_ := aM (ho); clear HO_3; clear HB; clear HO_4; have HO_3 := n0_; have HB := n1_; have HO297 := n2_; clear n0_ n1_ n2_; clear ho hb hg hat)))
       go_roundg k1
       case measure => have := HK1.out; omega
       case rel => exact ⟨(y295), (wrap64 (x5_1 + 1)), (by first | rfl | (simp; done) | (simp [*]; done)), H', ⟨by have := HK1.out; omega⟩, ⟨by (with_reducible repeat (first | apply rA | apply rN | apply rD)); exact rM HO_3.out (fun _ hk => hk.2)⟩, ⟨by (with_reducible repeat (first | apply rA | apply rN | apply rD)); exact HO297.out⟩, ⟨by with_reducible repeat (first | exact HB.out | apply bA | apply bN | apply bD)⟩⟩
      ·rw [if_neg c7] at H
       exact absurd H (by simp)
     ·rw [if_neg c6] at H
      exact absurd H (by simp)
    ·rw [if_neg c5] at H
     have c5b0 : (x5_1 == 0) = false := beq_eq_false_iff_ne.mpr c5
     have c5b1 : (x5_1 != 0) = true := bne_iff_ne.mpr c5
     by_cases c10 : 0 ≤ x5_1
     ·rw [if_pos c10] at H
      have c10b0 : decide (0 ≤ x5_1) = true := decide_eq_true c10
      clear c10
      obtain ⟨ji11, hji11⟩ : ∃ j_ : Int, (wrap64 (x5_1 - 1)) = j_ := ⟨_, rfl⟩
      replace H : (if 0 ≤ (ji11) then (if (ji11) < (t291.length : Int) then (if ((!(((rd_T35 t291 x5_1).f0.f0) == ((rd_T35 t291 (ji11)).f0.f0)) || (!(((rd_T35 t291 x5_1).f0.f1) == ((rd_T35 t291 (ji11)).f0.f1)))) || ((!(((rd_T35 t291 x5_1).f1.f0) == ((rd_T35 t291 (ji11)).f1.f0)) || (!(((rd_T35 t291 x5_1).f1.f1) == ((rd_T35 t291 (ji11)).f1.f1)))))) = true then (if x4_1.length < 4398046511104 then (mapmakerref20_Unique.l0 k1 t291 (x4_1 ++ [(⟨(⟨(rd_T35 t291 x5_1).f0.f0, (rd_T35 t291 x5_1).f0.f1⟩ : S33), (⟨(rd_T35 t291 x5_1).f1.f0, (rd_T35 t291 x5_1).f1.f1⟩ : S33)⟩ : S35)]) (wrap64 (x5_1 + 1))) else (none)) else (mapmakerref20_Unique.l0 k1 t291 x4_1 (wrap64 (x5_1 + 1)))) else (none)) else (none)) = some r := by first | (rw [hji11] at H; exact H) | (simp only [hji11] at H ⊢; exact H)
      have hji11w : (IntKind.i64.wrap (x5_1 - 1)) = ji11 := (i64_w _).trans hji11
      by_cases c12 : 0 ≤ (ji11)
      ·rw [if_pos c12] at H
       have c12b0 : decide (0 ≤ (ji11)) = true := decide_eq_true c12
       clear c12
       by_cases c13 : (ji11) < (t291.length : Int)
       ·rw [if_pos c13] at H
        have c13b0 : decide ((ji11) < (t291.length : Int)) = true := decide_eq_true c13
        clear c13
        by_cases c14 : ((!(((rd_T35 t291 x5_1).f0.f0) == ((rd_T35 t291 (ji11)).f0.f0)) || (!(((rd_T35 t291 x5_1).f0.f1) == ((rd_T35 t291 (ji11)).f0.f1)))) || ((!(((rd_T35 t291 x5_1).f1.f0) == ((rd_T35 t291 (ji11)).f1.f0)) || (!(((rd_T35 t291 x5_1).f1.f1) == ((rd_T35 t291 (ji11)).f1.f1)))))) = true
        ·rw [if_pos c14] at H
         have c14b0 : ((!(((rd_T35 t291 x5_1).f0.f0) == ((rd_T35 t291 (ji11)).f0.f0)) || (!(((rd_T35 t291 x5_1).f0.f1) == ((rd_T35 t291 (ji11)).f0.f1)))) || ((!(((rd_T35 t291 x5_1).f1.f0) == ((rd_T35 t291 (ji11)).f1.f0)) || (!(((rd_T35 t291 x5_1).f1.f1) == ((rd_T35 t291 (ji11)).f1.f1)))))) = true := c14
         clear c14
         by_cases c15 : x4_1.length < 4398046511104
         ·rw [if_pos c15] at H
          have LMc15 := aM c15
          clear c15
          obtain ⟨y301, hy301⟩ : ∃ y_ : List (S35), y_ = (x4_1 ++ [(⟨(⟨(rd_T35 t291 x5_1).f0.f0, (rd_T35 t291 x5_1).f0.f1⟩ : S33), (⟨(rd_T35 t291 x5_1).f1.f0, (rd_T35 t291 x5_1).f1.f1⟩ : S33)⟩ : S35)]) := ⟨_, rfl⟩
          replace H : (mapmakerref20_Unique.l0 k1 t291 y301 (wrap64 (x5_1 + 1))) = some r := by first | (rw [hy301]; with_reducible exact H) | (have H2_ := (Option.bind_some _ _).symm.trans H; rw [hy301]; with_reducible exact H2_) | (have H2_ := (Option.bind_some _ _).symm.trans H; with_reducible exact H2_) | with_reducible exact H | (rw [hy301]; exact H) | exact H
          have Ny301 := aM hy301
          clear hy301
          have H' := aM H
          clear H
          obtain ⟨Ao16, co16, eo16⟩ := Kd.R_slice HO_3.out
          subst eo16
          have p298 : 0 ≤ (x5_1 : Int) := of_decide_eq_true (by first | (with_reducible assumption) | assumption)
          have q298 : x5_1 < (t291.length : Int) := of_decide_eq_true (by first | (with_reducible assumption) | assumption)
          obtain ⟨ad298, e298, hx298_0, hx298_1, hx298_2, hx298_3⟩ := at_T35 (rR HO_3.out).2.2 x5_1 p298 q298
          cases e298
          replace p298 := eq_true p298
          replace q298 := eq_true q298
          have p299 : 0 ≤ ((ji11) : Int) := of_decide_eq_true (by first | (with_reducible assumption) | assumption)
          have q299 : (ji11) < (t291.length : Int) := of_decide_eq_true (by first | (with_reducible assumption) | assumption)
          obtain ⟨ad299, e299, hx299_0, hx299_1, hx299_2, hx299_3⟩ := at_T35 (rR HO_3.out).2.2 (ji11) p299 q299
          obtain rfl : ad298 = ad299 := (by injection e299)
          replace p299 := eq_true p299
          replace q299 := eq_true q299
          have p300 : 0 ≤ (x5_1 : Int) := of_decide_eq_true (by first | (with_reducible assumption) | assumption)
          have q300 : x5_1 < (t291.length : Int) := of_decide_eq_true (by first | (with_reducible assumption) | assumption)
          obtain ⟨ad300, e300, hx300_0, hx300_1, hx300_2, hx300_3⟩ := at_T35 (rR HO_3.out).2.2 x5_1 p300 q300
          obtain rfl : ad298 = ad300 := (by injection e300)
          replace p300 := eq_true p300
          replace q300 := eq_true q300
          go_wp2_with (first | ((with_reducible refine gate_builtin (b := .append) (xs := #[.tmp 28, .tmp 33]) rfl ?_); at_builtin; refine Kd.R_append k35 (w0 := w) w.heap.size rfl (.tmp 28) (.tmp 33) 23 35 (.agg #[(.int .i64 0), (.int .i64 0), (.int .i64 0), (.int .i64 0)]) 32 rfl Try.underlying23 info35 rfl (by decide) (by omega) u4 x4_1 (⟨(⟨(rd_T35 t291 x5_1).f0.f0, (rd_T35 t291 x5_1).f0.f1⟩ : S33), (⟨(rd_T35 t291 x5_1).f1.f0, (rd_T35 t291 x5_1).f1.f1⟩ : S33)⟩ : S35) [.int .i64 ((rd_T35 t291 x5_1).f0.f0), .int .i64 ((rd_T35 t291 x5_1).f0.f1), .int .i64 ((rd_T35 t291 x5_1).f1.f0), .int .i64 ((rd_T35 t291 x5_1).f1.f1)] (fun k_ => some k_ ≠ (.slice (some ad298) t291.length co16 : Value).ownBlock) (fun _ => False) rfl rfl ?aP (fun _ hk => hk.elim) ?aF ?aO ?aB ?aS ?aL ?_; (case aP => exact k35_mkM _ _ _ (⟨(⟨(rd_T35 t291 x5_1).f0.f0, (rd_T35 t291 x5_1).f0.f1⟩ : S33), (⟨(rd_T35 t291 x5_1).f1.f0, (rd_T35 t291 x5_1).f1.f1⟩ : S33)⟩ : S35)); (case aB => exact (by with_reducible repeat (first | exact HB.out | apply bA | apply bN | apply bD))); (case aF => exact (fun k_ hk => Kd.fresh' (Kd.R_lt (by (with_reducible repeat (first | apply rA | apply rN | apply rD)); exact HO_3.out)) k_ hk)); (case aO => exact (by (with_reducible repeat (first | apply rA | apply rN | apply rD)); exact HO_4.out)); (case aS => exact (below_size (by with_reducible repeat (first | exact HB.out | apply bA | apply bN | apply bD)))); (case aL => have := LMc15.out; omega); intro v302 w17 ho hb hg hat; rw [← Ny301.out] at ho; have n0_ := aM (Kd.R_after (ok := (fun _ => True)) (by (with_reducible repeat (first | apply rA | apply rN | apply rD)); exact rM HO_3.out (fun _ hk => ⟨trivial, hk⟩)) hg hat); have n1_ := aM (hb); have n2_ := aM (ho); clear HO_3; clear HB; clear HO_4; have HO_3 := n0_; have HB := n1_; have HO303 := n2_; clear n0_ n1_ n2_; clear ho hb hg hat))
          repeat (go_quiet (first | ((with_reducible refine gate_builtin (b := .append) (xs := #[.tmp 28, .tmp 33]) rfl ?_); at_builtin; refine Kd.R_append k35 (w0 := w) w.heap.size rfl (.tmp 28) (.tmp 33) 23 35 (.agg #[(.int .i64 0), (.int .i64 0), (.int .i64 0), (.int .i64 0)]) 32 rfl Try.underlying23 info35 rfl (by decide) (by omega) u4 x4_1 (⟨(⟨(rd_T35 t291 x5_1).f0.f0, (rd_T35 t291 x5_1).f0.f1⟩ : S33), (⟨(rd_T35 t291 x5_1).f1.f0, (rd_T35 t291 x5_1).f1.f1⟩ : S33)⟩ : S35) [.int .i64 ((rd_T35 t291 x5_1).f0.f0), .int .i64 ((rd_T35 t291 x5_1).f0.f1), .int .i64 ((rd_T35 t291 x5_1).f1.f0), .int .i64 ((rd_T35 t291 x5_1).f1.f1)] (fun k_ => some k_ ≠ (.slice (some ad298) t291.length co16 : Value).ownBlock) (fun _ => False) rfl rfl ?aP (fun _ hk => hk.elim) ?aF ?aO ?aB ?aS ?aL ?_; (case aP => exact k35_mkM _ _ _ (⟨(⟨(rd_T35 t291 x5_1).f0.f0, (rd_T35 t291 x5_1).f0.f1⟩ : S33), (⟨(rd_T35 t291 x5_1).f1.f0, (rd_T35 t291 x5_1).f1.f1⟩ : S33)⟩ : S35)); (case aB => exact (by with_reducible repeat (first | exact HB.out | apply bA | apply bN | apply bD))); (case aF => exact (fun k_ hk => Kd.fresh' (Kd.R_lt (by (with_reducible repeat (first | apply rA | apply rN | apply rD)); exact HO_3.out)) k_ hk)); (case aO => exact (by (with_reducible repeat (first | apply rA | apply rN | apply rD)); exact HO_4.out)); (case aS => exact (below_size (by with_reducible repeat (first | exact HB.out | apply bA | apply bN | apply bD)))); (case aL => have := LMc15.out; omega); intro v302 w17 ho hb hg hat; rw [← Ny301.out] at ho; have n0_ := aM (Kd.R_after (ok := (fun _ => True)) (by (with_reducible repeat (first | apply rA | apply rN | apply rD)); exact rM HO_3.out (fun _ hk => ⟨trivial, hk⟩)) hg hat); have n1_ := aM (hb); have n2_ := aM (ho); clear HO_3; clear HB; clear HO_4; have HO_3 := n0_; have HB := n1_; have HO303 := n2_; clear n0_ n1_ n2_; clear ho hb hg hat)); try go_wp2_with (first | ((with_reducible refine gate_builtin (b := .append) (xs := #[.tmp 28, .tmp 33]) rfl ?_); at_builtin; refine Kd.R_append k35 (w0 := w) w.heap.size rfl (.tmp 28) (.tmp 33) 23 35 (.agg #[(.int .i64 0), (.int .i64 0), (.int .i64 0), (.int .i64 0)]) 32 rfl Try.underlying23 info35 rfl (by decide) (by omega) u4 x4_1 (⟨(⟨(rd_T35 t291 x5_1).f0.f0, (rd_T35 t291 x5_1).f0.f1⟩ : S33), (⟨(rd_T35 t291 x5_1).f1.f0, (rd_T35 t291 x5_1).f1.f1⟩ : S33)⟩ : S35) [.int .i64 ((rd_T35 t291 x5_1).f0.f0), .int .i64 ((rd_T35 t291 x5_1).f0.f1), .int .i64 ((rd_T35 t291 x5_1).f1.f0), .int .i64 ((rd_T35 t291 x5_1).f1.f1)] (fun k_ => some k_ ≠ (.slice (some ad298) t291.length co16 : Value).ownBlock) (fun _ => False) rfl rfl ?aP (fun _ hk => hk.elim) ?aF ?aO ?aB ?aS ?aL ?_; (case aP => exact k35_mkM _ _ _ (⟨(⟨(rd_T35 t291 x5_1).f0.f0, (rd_T35 t291 x5_1).f0.f1⟩ : S33), (⟨(rd_T35 t291 x5_1).f1.f0, (rd_T35 t291 x5_1).f1.f1⟩ : S33)⟩ : S35)); (case aB => exact (by with_reducible repeat (first | exact HB.out | apply bA | apply bN | apply bD))); (case aF => exact (fun k_ hk => Kd.fresh' (Kd.R_lt (by (with_reducible repeat (first | apply rA | apply rN | apply rD)); exact HO_3.out)) k_ hk)); (case aO => exact (by (with_reducible repeat (first | apply rA | apply rN | apply rD)); exact HO_4.out)); (case aS => exact (below_size (by with_reducible repeat (first | exact HB.out | apply bA | apply bN | apply bD)))); (case aL => have := LMc15.out; omega); intro v302 w17 ho hb hg hat; rw [← Ny301.out] at ho; have n0_ := aM (Kd.R_after (ok := (fun _ => True)) (by (with_reducible repeat (first | apply rA | apply rN | apply rD)); exact rM HO_3.out (fun _ hk => ⟨trivial, hk⟩)) hg hat); have n1_ := aM (hb); have n2_ := aM (ho); clear HO_3; clear HB; clear HO_4; have HO_3 := n0_; have HB := n1_; have HO303 := n2_; clear n0_ n1_ n2_; clear ho hb hg hat)))
          go_roundg k1
          case measure => have := HK1.out; omega
          case rel => exact ⟨(y301), (wrap64 (x5_1 + 1)), (by first | rfl | (simp; done) | (simp [*]; done)), H', ⟨by have := HK1.out; omega⟩, ⟨by (with_reducible repeat (first | apply rA | apply rN | apply rD)); exact rM HO_3.out (fun _ hk => hk.2)⟩, ⟨by (with_reducible repeat (first | apply rA | apply rN | apply rD)); exact HO303.out⟩, ⟨by with_reducible repeat (first | exact HB.out | apply bA | apply bN | apply bD)⟩⟩
         ·rw [if_neg c15] at H
          exact absurd H (by simp)
        ·rw [if_neg c14] at H
         have c14b0 : ((!(((rd_T35 t291 x5_1).f0.f0) == ((rd_T35 t291 (ji11)).f0.f0)) || (!(((rd_T35 t291 x5_1).f0.f1) == ((rd_T35 t291 (ji11)).f0.f1)))) || ((!(((rd_T35 t291 x5_1).f1.f0) == ((rd_T35 t291 (ji11)).f1.f0)) || (!(((rd_T35 t291 x5_1).f1.f1) == ((rd_T35 t291 (ji11)).f1.f1)))))) = false := by simpa using c14
         clear c14
         have H' := aM H
         clear H
         obtain ⟨Ao18, co18, eo18⟩ := Kd.R_slice HO_3.out
         subst eo18
         have p298 : 0 ≤ (x5_1 : Int) := of_decide_eq_true (by first | (with_reducible assumption) | assumption)
         have q298 : x5_1 < (t291.length : Int) := of_decide_eq_true (by first | (with_reducible assumption) | assumption)
         obtain ⟨ad298, e298, hx298_0, hx298_1, hx298_2, hx298_3⟩ := at_T35 (rR HO_3.out).2.2 x5_1 p298 q298
         cases e298
         replace p298 := eq_true p298
         replace q298 := eq_true q298
         have p299 : 0 ≤ ((ji11) : Int) := of_decide_eq_true (by first | (with_reducible assumption) | assumption)
         have q299 : (ji11) < (t291.length : Int) := of_decide_eq_true (by first | (with_reducible assumption) | assumption)
         obtain ⟨ad299, e299, hx299_0, hx299_1, hx299_2, hx299_3⟩ := at_T35 (rR HO_3.out).2.2 (ji11) p299 q299
         obtain rfl : ad298 = ad299 := (by injection e299)
         replace p299 := eq_true p299
         replace q299 := eq_true q299
         go_wp2
         repeat (go_quiet (fail); try go_wp2)
         go_roundg k1
         case measure => have := HK1.out; omega
         case rel => exact ⟨(x4_1), (wrap64 (x5_1 + 1)), (by first | rfl | (simp; done) | (simp [*]; done)), H', ⟨by have := HK1.out; omega⟩, ⟨by (with_reducible repeat (first | apply rA | apply rN | apply rD)); exact HO_3.out⟩, ⟨by (with_reducible repeat (first | apply rA | apply rN | apply rD)); exact HO_4.out⟩, ⟨by with_reducible repeat (first | exact HB.out | apply bA | apply bN | apply bD)⟩⟩
       ·rw [if_neg c13] at H
        exact absurd H (by simp)
      ·rw [if_neg c12] at H
       exact absurd H (by simp)
     ·rw [if_neg c10] at H
      exact absurd H (by simp)
   ·rw [if_neg c4] at H
    have c4b0 : decide (x5_1 < (t291.length : Int)) = false := decide_eq_false c4
    clear c4
    obtain rfl := Option.some.inj H
    obtain ⟨Ao19, co19, eo19⟩ := Kd.R_slice HO_3.out
    subst eo19
    go_wp2
    repeat (go_quiet (fail); try go_wp2)
    go_ret
    exact ⟨_, by first | rfl | (simp [errW_none, errW_some] <;> rfl) | (simp [*, errW_none, errW_some] <;> rfl), by (with_reducible repeat (first | apply rA | apply rN | apply rD)); exact rM HO_4.out (fun _ hk => trivial), by with_reducible repeat (first | exact HB.out | apply bA | apply bN | apply bD)⟩
def mapmakerref20_times.l0 : Nat → List (S35) → Int → Int → Int → Int → Int → Int → Option (Int)
 | 0, _, _, _, _, _, _, _ => none
 | k + 1, x0, x5, x6, x305000, x305001, x305002, x305003 => if x6 < (x0.length : Int) then (if 0 ≤ x6 then (if ((((rd_T35 x0 x6).f0.f0) == x305000 && (((rd_T35 x0 x6).f0.f1) == x305001)) && ((((rd_T35 x0 x6).f1.f0) == x305002 && (((rd_T35 x0 x6).f1.f1) == x305003)))) = true then (mapmakerref20_times.l0 k x0 (wrap64 (x5 + 1)) (wrap64 (x6 + 1)) x305000 x305001 x305002 x305003) else (mapmakerref20_times.l0 k x0 x5 (wrap64 (x6 + 1)) x305000 x305001 x305002 x305003)) else (none)) else (some x5)
def mapmakerref20_times.f (k : Nat) (l0 : List (S35)) (a1_0 : Int) (a1_1 : Int) (a1_2 : Int) (a1_3 : Int) : Option (Int) := mapmakerref20_times.l0 k l0 0 0 a1_0 a1_1 a1_2 a1_3
theorem mapmakerref20_times.mono_l : ∀ k, (∀ y0 y1 y2 y3 y4 y5 y6, LeO (mapmakerref20_times.l0 k y0 y1 y2 y3 y4 y5 y6) (mapmakerref20_times.l0 (k + 1) y0 y1 y2 y3 y4 y5 y6))
 | 0 => fun _ _ _ _ _ _ _ r h => by simp [mapmakerref20_times.l0] at h
 | k + 1 => by
  have ih0 := mapmakerref20_times.mono_l k
  ·intro y0 y1 y2 y3 y4 y5 y6
   unfold mapmakerref20_times.l0
   repeat' first
   | (with_reducible exact ih0 _ _ _ _ _ _ _)
   | (with_reducible exact LeO.refl _)
   | (with_reducible exact LeO.none _)
   | (with_reducible refine LeO.ite ?_ ?_)
   | (with_reducible refine LeO.bind ?_ (fun _ => ?_))
   | exact ih0 _ _ _ _ _ _ _
   | exact LeO.none _
   | refine LeO.ite ?_ ?_
   | refine LeO.bind ?_ (fun _ => ?_)
theorem mapmakerref20_times.mono : ∀ a0 a1 a2 a3 a4 k, LeO (mapmakerref20_times.f k a0 a1 a2 a3 a4) (mapmakerref20_times.f (k + 1) a0 a1 a2 a3 a4) := by
 intro a0 a1 a2 a3 a4 k
 have ih0 := mapmakerref20_times.mono_l k
 unfold mapmakerref20_times.f
 repeat' first
   | (with_reducible exact ih0 _ _ _ _ _ _ _)
   | (with_reducible exact LeO.refl _)
   | (with_reducible exact LeO.none _)
   | (with_reducible refine LeO.ite ?_ ?_)
   | (with_reducible refine LeO.bind ?_ (fun _ => ?_))
   | exact ih0 _ _ _ _ _ _ _
   | exact LeO.none _
   | refine LeO.ite ?_ ?_
   | refine LeO.bind ?_ (fun _ => ?_)
set_option maxHeartbeats 8000000 in
set_option maxRecDepth 100000 in
theorem mapmakerref20_times.calls (k : Nat) (A0 : Option Addr) (c0 : Nat) (l0 : List (S35)) (a1_0 : Int) (a1_1 : Int) (a1_2 : Int) (a1_3 : Int) (r : Int) (w : World) (hr0 : Kd.C k35 w A0 l0.length l0) (hc0 : l0.length ≤ c0) (h : mapmakerref20_times.f k l0 a1_0 a1_1 a1_2 a1_3 = some r) :
  Calls Try.prog 38 #[.slice A0 l0.length c0, .agg #[.int .i64 a1_0, .int .i64 a1_1, .int .i64 a1_2, .int .i64 a1_3]] w fun e w' => e = .returned (.int .i64 r) ∧ Below w.heap.size w w' := by
 have hu35 := Try.underlying35
 have HR0 := aM hr0
 have HC0 := aM hc0
 clear hr0 hc0
 have HB := aM (Below.refl w.heap.size w)
 have H : (mapmakerref20_times.l0 k l0 0 0 a1_0 a1_1 a1_2 a1_3) = some r := h
 clear h
 have H' := aM H
 clear H
 go_enter Try.func38, Try.ntmps38
 go_wp2_with (first | ((with_reducible refine gate_dst (N := 3) rfl ?_); refine box_event ?hg (N := 3) ?hd (cs := #[.int .i64 a1_0, .int .i64 a1_1, .int .i64 a1_2, .int .i64 a1_3]) (t := 35) ?hr ?_; (case hd => rfl); (case hg => rfl); (case hr => first | (go_simp; done) | (go_simp; rfl)); intro gb304 hg w3 hbox hb; have n0_ := aM (bS (by with_reducible repeat (first | exact HB.out | apply bA | apply bN | apply bD)) hb); have n1_ := aM (hbox); have n2_ := aM ((by rw [hg]; exact (below_size (by with_reducible repeat (first | exact HB.out | apply bA | apply bN | apply bD))) : w.heap.size ≤ gb304)); have n3_ := aM ((by rw [hg]; exact (below_size (by with_reducible repeat (first | exact HB.out | apply bA | apply bN | apply bD))) : w.heap.size ≤ gb304)); clear HB; have HB := n0_; have BK304 := n1_; have GW304 := n2_; have GE304 := n3_; clear n0_ n1_ n2_ n3_; clear hb hbox hg))
 repeat (go_quiet (first | ((with_reducible refine gate_dst (N := 3) rfl ?_); refine box_event ?hg (N := 3) ?hd (cs := #[.int .i64 a1_0, .int .i64 a1_1, .int .i64 a1_2, .int .i64 a1_3]) (t := 35) ?hr ?_; (case hd => rfl); (case hg => rfl); (case hr => first | (go_simp; done) | (go_simp; rfl)); intro gb304 hg w3 hbox hb; have n0_ := aM (bS (by with_reducible repeat (first | exact HB.out | apply bA | apply bN | apply bD)) hb); have n1_ := aM (hbox); have n2_ := aM ((by rw [hg]; exact (below_size (by with_reducible repeat (first | exact HB.out | apply bA | apply bN | apply bD))) : w.heap.size ≤ gb304)); have n3_ := aM ((by rw [hg]; exact (below_size (by with_reducible repeat (first | exact HB.out | apply bA | apply bN | apply bD))) : w.heap.size ≤ gb304)); clear HB; have HB := n0_; have BK304 := n1_; have GW304 := n2_; have GE304 := n3_; clear n0_ n1_ n2_ n3_; clear hb hbox hg)); try go_wp2_with (first | ((with_reducible refine gate_dst (N := 3) rfl ?_); refine box_event ?hg (N := 3) ?hd (cs := #[.int .i64 a1_0, .int .i64 a1_1, .int .i64 a1_2, .int .i64 a1_3]) (t := 35) ?hr ?_; (case hd => rfl); (case hg => rfl); (case hr => first | (go_simp; done) | (go_simp; rfl)); intro gb304 hg w3 hbox hb; have n0_ := aM (bS (by with_reducible repeat (first | exact HB.out | apply bA | apply bN | apply bD)) hb); have n1_ := aM (hbox); have n2_ := aM ((by rw [hg]; exact (below_size (by with_reducible repeat (first | exact HB.out | apply bA | apply bN | apply bD))) : w.heap.size ≤ gb304)); have n3_ := aM ((by rw [hg]; exact (below_size (by with_reducible repeat (first | exact HB.out | apply bA | apply bN | apply bD))) : w.heap.size ≤ gb304)); clear HB; have HB := n0_; have BK304 := n1_; have GW304 := n2_; have GE304 := n3_; clear n0_ n1_ n2_ n3_; clear hb hbox hg)))
 go_loopg [5, 6] k (fun kq v5 v6 w' => ∃ (x5_1 : Int) (x6_1 : Int), v5 = .int .i64 x5_1 ∧ v6 = .int .i64 x6_1 ∧ Aside0 (mapmakerref20_times.l0 kq l0 x5_1 x6_1 a1_0 a1_1 a1_2 a1_3 = some r) ∧ Aside0 (kq ≤ k) ∧ Aside0 (w'.heap[gb304]? = some (.cells #[.int .i64 a1_0, .int .i64 a1_1, .int .i64 a1_2, .int .i64 a1_3] 35 (0, 0))) ∧ Aside0 (Below w.heap.size w w'))
 case atStart => exact ⟨(0), (0), (by first | rfl | (simp; done) | (simp [*]; done)), (by first | rfl | (simp; done) | (simp [*]; done)), H', ⟨Nat.le_refl _⟩, ⟨by (with_reducible repeat (first | refine kN ?_ _ | refine kD ?_ | refine kA ?_ _)); exact BK304.out⟩, ⟨by with_reducible repeat (first | exact HB.out | apply bA | apply bN | apply bD | refine bT ?_ GE304.out)⟩⟩
 case round =>
  clear H'
  try clear p2
  try clear c3
  obtain ⟨x5_1, x6_1, rfl, rfl, HA, HK1, BK304, HB⟩ := hrel
  cases gk with
  | zero => exact absurd HA.out (by simp [mapmakerref20_times.l0])
  | succ k1 =>
   have H := HA.out
   clear HA
   simp only [mapmakerref20_times.l0] at H
   by_cases c4 : x6_1 < (l0.length : Int)
   ·rw [if_pos c4] at H
    have c4b0 : decide (x6_1 < (l0.length : Int)) = true := decide_eq_true c4
    clear c4
    by_cases c5 : 0 ≤ x6_1
    ·rw [if_pos c5] at H
     have c5b0 : decide (0 ≤ x6_1) = true := decide_eq_true c5
     clear c5
     by_cases c6 : ((((rd_T35 l0 x6_1).f0.f0) == a1_0 && (((rd_T35 l0 x6_1).f0.f1) == a1_1)) && ((((rd_T35 l0 x6_1).f1.f0) == a1_2 && (((rd_T35 l0 x6_1).f1.f1) == a1_3)))) = true
     ·rw [if_pos c6] at H
      have c6b0 : ((((rd_T35 l0 x6_1).f0.f0) == a1_0 && (((rd_T35 l0 x6_1).f0.f1) == a1_1)) && ((((rd_T35 l0 x6_1).f1.f0) == a1_2 && (((rd_T35 l0 x6_1).f1.f1) == a1_3)))) = true := c6
      clear c6
      have H' := aM H
      clear H
      have p305 : 0 ≤ (x6_1 : Int) := of_decide_eq_true (by first | (with_reducible assumption) | assumption)
      have q305 : x6_1 < (l0.length : Int) := of_decide_eq_true (by first | (with_reducible assumption) | assumption)
      obtain ⟨ad305, e305, hx305_0, hx305_1, hx305_2, hx305_3⟩ := at_T35 HR0.out x6_1 p305 q305
      cases e305
      replace hx305_0 := (HB.out.cell (World.block_lt_of_cell? w _ hx305_0)).trans hx305_0
      replace hx305_1 := (HB.out.cell (World.block_lt_of_cell? w _ hx305_1)).trans hx305_1
      replace hx305_2 := (HB.out.cell (World.block_lt_of_cell? w _ hx305_2)).trans hx305_2
      replace hx305_3 := (HB.out.cell (World.block_lt_of_cell? w _ hx305_3)).trans hx305_3
      replace p305 := eq_true p305
      replace q305 := eq_true q305
      have hcz7_0 : wr.cell? ⟨gb304, 0, none⟩ = some (.int .i64 a1_0) := (kC BK304.out 0).trans rfl
      have hcz7_1 : wr.cell? ⟨gb304, 1, none⟩ = some (.int .i64 a1_1) := (kC BK304.out 1).trans rfl
      have hcz7_2 : wr.cell? ⟨gb304, 2, none⟩ = some (.int .i64 a1_2) := (kC BK304.out 2).trans rfl
      have hcz7_3 : wr.cell? ⟨gb304, 3, none⟩ = some (.int .i64 a1_3) := (kC BK304.out 3).trans rfl
      have hfz7_0 := kF BK304.out 0
      have hfz7_1 := kF BK304.out 1
      have hfz7_2 := kF BK304.out 2
      have hfz7_3 := kF BK304.out 3
      go_wp2
      repeat (go_quiet (fail); try go_wp2)
      go_roundg k1
      case measure => have := HK1.out; omega
      case rel => exact ⟨(wrap64 (x5_1 + 1)), (wrap64 (x6_1 + 1)), (by first | rfl | (simp; done) | (simp [*]; done)), (by first | rfl | (simp; done) | (simp [*]; done)), H', ⟨by have := HK1.out; omega⟩, ⟨by (with_reducible repeat (first | refine kN ?_ _ | refine kD ?_ | refine kA ?_ _)); exact BK304.out⟩, ⟨by with_reducible repeat (first | exact HB.out | apply bA | apply bN | apply bD | refine bT ?_ GE304.out)⟩⟩
     ·rw [if_neg c6] at H
      have c6b0 : ((((rd_T35 l0 x6_1).f0.f0) == a1_0 && (((rd_T35 l0 x6_1).f0.f1) == a1_1)) && ((((rd_T35 l0 x6_1).f1.f0) == a1_2 && (((rd_T35 l0 x6_1).f1.f1) == a1_3)))) = false := by simpa using c6
      clear c6
      have H' := aM H
      clear H
      have p305 : 0 ≤ (x6_1 : Int) := of_decide_eq_true (by first | (with_reducible assumption) | assumption)
      have q305 : x6_1 < (l0.length : Int) := of_decide_eq_true (by first | (with_reducible assumption) | assumption)
      obtain ⟨ad305, e305, hx305_0, hx305_1, hx305_2, hx305_3⟩ := at_T35 HR0.out x6_1 p305 q305
      cases e305
      replace hx305_0 := (HB.out.cell (World.block_lt_of_cell? w _ hx305_0)).trans hx305_0
      replace hx305_1 := (HB.out.cell (World.block_lt_of_cell? w _ hx305_1)).trans hx305_1
      replace hx305_2 := (HB.out.cell (World.block_lt_of_cell? w _ hx305_2)).trans hx305_2
      replace hx305_3 := (HB.out.cell (World.block_lt_of_cell? w _ hx305_3)).trans hx305_3
      replace p305 := eq_true p305
      replace q305 := eq_true q305
      have hcz8_0 : wr.cell? ⟨gb304, 0, none⟩ = some (.int .i64 a1_0) := (kC BK304.out 0).trans rfl
      have hcz8_1 : wr.cell? ⟨gb304, 1, none⟩ = some (.int .i64 a1_1) := (kC BK304.out 1).trans rfl
      have hcz8_2 : wr.cell? ⟨gb304, 2, none⟩ = some (.int .i64 a1_2) := (kC BK304.out 2).trans rfl
      have hcz8_3 : wr.cell? ⟨gb304, 3, none⟩ = some (.int .i64 a1_3) := (kC BK304.out 3).trans rfl
      have hfz8_0 := kF BK304.out 0
      have hfz8_1 := kF BK304.out 1
      have hfz8_2 := kF BK304.out 2
      have hfz8_3 := kF BK304.out 3
      go_wp2
      repeat (go_quiet (fail); try go_wp2)
      go_roundg k1
      case measure => have := HK1.out; omega
      case rel => exact ⟨(x5_1), (wrap64 (x6_1 + 1)), (by first | rfl | (simp; done) | (simp [*]; done)), (by first | rfl | (simp; done) | (simp [*]; done)), H', ⟨by have := HK1.out; omega⟩, ⟨by (with_reducible repeat (first | refine kN ?_ _ | refine kD ?_ | refine kA ?_ _)); exact BK304.out⟩, ⟨by with_reducible repeat (first | exact HB.out | apply bA | apply bN | apply bD | refine bT ?_ GE304.out)⟩⟩
    ·rw [if_neg c5] at H
     exact absurd H (by simp)
   ·rw [if_neg c4] at H
    have c4b0 : decide (x6_1 < (l0.length : Int)) = false := decide_eq_false c4
    clear c4
    obtain rfl := Option.some.inj H
    go_wp2
    repeat (go_quiet (fail); try go_wp2)
    go_ret
    exact ⟨by first | rfl | (simp [errW_none, errW_some] <;> rfl) | (simp [*, errW_none, errW_some] <;> rfl), by with_reducible repeat (first | exact HB.out | apply bA | apply bN | apply bD | refine bT ?_ GE304.out)⟩
def mapmakerref20_Odd.l0 : Nat → List (S35) → List (S35) → List (S35) → Int → Option ((List (S35)))
 | 0, _, _, _, _ => none
 | k + 1, x3, x4, x5, x6 => if x6 < (x4.length : Int) then (if 0 ≤ x6 then ((mapmakerref20_times.f k x3 ((rd_T35 x4 x6).f0.f0) ((rd_T35 x4 x6).f0.f1) ((rd_T35 x4 x6).f1.f0) ((rd_T35 x4 x6).f1.f1)).bind fun t313 => (if (Int.tmod t313 2) = 1 then (if x5.length < 4398046511104 then (mapmakerref20_Odd.l0 k x3 x4 (x5 ++ [(⟨(⟨(rd_T35 x4 x6).f0.f0, (rd_T35 x4 x6).f0.f1⟩ : S33), (⟨(rd_T35 x4 x6).f1.f0, (rd_T35 x4 x6).f1.f1⟩ : S33)⟩ : S35)]) (wrap64 (x6 + 1))) else (none)) else (mapmakerref20_Odd.l0 k x3 x4 x5 (wrap64 (x6 + 1))))) else (none)) else (some x5)
def mapmakerref20_Odd.f (k : Nat) (l0 : List (S35)) : Option ((List (S35))) := (mapmakerref20_Sort.f k l0).bind fun t306 => ((mapmakerref20_Unique.f k l0).bind fun t309 => (mapmakerref20_Odd.l0 k t306 t309 ([] : List (S35)) 0))
theorem mapmakerref20_Odd.mono_l : ∀ k, (∀ y0 y1 y2 y3, LeO (mapmakerref20_Odd.l0 k y0 y1 y2 y3) (mapmakerref20_Odd.l0 (k + 1) y0 y1 y2 y3))
 | 0 => fun _ _ _ _ r h => by simp [mapmakerref20_Odd.l0] at h
 | k + 1 => by
  have ih0 := mapmakerref20_Odd.mono_l k
  ·intro y0 y1 y2 y3
   unfold mapmakerref20_Odd.l0
   repeat' first
   | (with_reducible exact ih0 _ _ _ _)
   | (with_reducible exact mapmakerref20_Sort.mono _ _)
   | (with_reducible exact mapmakerref20_Unique.mono _ _)
   | (with_reducible exact mapmakerref20_times.mono _ _ _ _ _ _)
   | (with_reducible exact LeO.refl _)
   | (with_reducible exact LeO.none _)
   | (with_reducible refine LeO.ite ?_ ?_)
   | (with_reducible refine LeO.bind ?_ (fun _ => ?_))
   | exact ih0 _ _ _ _
   | exact mapmakerref20_Sort.mono _ _
   | exact mapmakerref20_Unique.mono _ _
   | exact mapmakerref20_times.mono _ _ _ _ _ _
   | exact LeO.none _
   | refine LeO.ite ?_ ?_
   | refine LeO.bind ?_ (fun _ => ?_)
theorem mapmakerref20_Odd.mono : ∀ a0 k, LeO (mapmakerref20_Odd.f k a0) (mapmakerref20_Odd.f (k + 1) a0) := by
 intro a0 k
 have ih0 := mapmakerref20_Odd.mono_l k
 unfold mapmakerref20_Odd.f
 repeat' first
   | (with_reducible exact ih0 _ _ _ _)
   | (with_reducible exact mapmakerref20_Sort.mono _ _)
   | (with_reducible exact mapmakerref20_Unique.mono _ _)
   | (with_reducible exact mapmakerref20_times.mono _ _ _ _ _ _)
   | (with_reducible exact LeO.refl _)
   | (with_reducible exact LeO.none _)
   | (with_reducible refine LeO.ite ?_ ?_)
   | (with_reducible refine LeO.bind ?_ (fun _ => ?_))
   | exact ih0 _ _ _ _
   | exact mapmakerref20_Sort.mono _ _
   | exact mapmakerref20_Unique.mono _ _
   | exact mapmakerref20_times.mono _ _ _ _ _ _
   | exact LeO.none _
   | refine LeO.ite ?_ ?_
   | refine LeO.bind ?_ (fun _ => ?_)
set_option maxHeartbeats 8000000 in
set_option maxRecDepth 100000 in
theorem mapmakerref20_Odd.calls (k : Nat) (A0 : Option Addr) (c0 : Nat) (l0 : List (S35)) (r : List (S35)) (w : World) (hr0 : Kd.C k35 w A0 l0.length l0) (hc0 : l0.length ≤ c0) (h : mapmakerref20_Odd.f k l0 = some r) :
  Calls Try.prog 18 #[.slice A0 l0.length c0] w fun e w' => ∃ v0_ : Value, e = .returned (v0_) ∧ Kd.R k35 35 w' w.heap.size (fun _ => True) v0_ r ∧ Below w.heap.size w w' := by
 have hu35 := Try.underlying35
 have HR0 := aM hr0
 have HC0 := aM hc0
 clear hr0 hc0
 have HB := aM (Below.refl w.heap.size w)
 have H : ((mapmakerref20_Sort.f k l0).bind fun t306 => ((mapmakerref20_Unique.f k l0).bind fun t309 => (mapmakerref20_Odd.l0 k t306 t309 ([] : List (S35)) 0))) = some r := h
 clear h
 replace H := Option.bind_eq_some_iff.mp H
 obtain ⟨t306, A20, H⟩ := H
 replace H : ((mapmakerref20_Unique.f k l0).bind fun t309 => (mapmakerref20_Odd.l0 k t306 t309 ([] : List (S35)) 0)) = some r := H
 have A2 := aM A20
 clear A20
 replace H := Option.bind_eq_some_iff.mp H
 obtain ⟨t309, A30, H⟩ := H
 replace H : (mapmakerref20_Odd.l0 k t306 t309 ([] : List (S35)) 0) = some r := H
 have A3 := aM A30
 clear A30
 have H' := aM H
 clear H
 go_enter Try.func18, Try.ntmps18
 go_wp2_with (first | ((with_reducible refine gate_callee (f := 14) rfl ?_); refine goesL_ (some 8) rfl rfl Try.func14 (by kernel_rfl) rfl #[.slice A0 l0.length c0] rfl (by (try simp only [List.map_toArray, List.map_cons, List.map_nil]); first | done | rfl | (simp only [List.length_drop, List.length_take]; rfl)) ?_; (with_reducible refine (mapmakerref20_Sort.calls k _ _ l0 t306 _ ?side1 ?side2 A2.out).mono ?_); (case side1 => repeat (first | exact HR0.out | (with_reducible refine cA ?_ _) | (with_reducible refine cN ?_ _) | (with_reducible refine cD ?_))); (case side2 => exact HC0.out); rintro e w4 ⟨v307, rfl, ho0, hb⟩; refine ⟨_, rfl, ?_⟩; have n0_ := aM (Kd.R_lower ho0 (below_size (by with_reducible repeat (first | exact HB.out | apply bA | apply bN | apply bD)))); have n1_ := aM (bS (by with_reducible repeat (first | exact HB.out | apply bA | apply bN | apply bD)) hb); clear HB; have HO308 := n0_; have HB := n1_; clear n0_ n1_; (try clear hb); (try clear hb2); (try clear hk); (try clear hi); (try clear ho0)) | ((with_reducible refine gate_callee (f := 16) rfl ?_); refine goesL_ (some 10) rfl rfl Try.func16 (by kernel_rfl) rfl #[.slice A0 l0.length c0] rfl (by (try simp only [List.map_toArray, List.map_cons, List.map_nil]); first | done | rfl | (simp only [List.length_drop, List.length_take]; rfl)) ?_; (with_reducible refine (mapmakerref20_Unique.calls k _ _ l0 t309 _ ?side1 ?side2 A3.out).mono ?_); (case side1 => repeat (first | exact (Kd.C_below HR0.out HB.out) | (with_reducible refine cA ?_ _) | (with_reducible refine cN ?_ _) | (with_reducible refine cD ?_))); (case side2 => exact HC0.out); rintro e w5 ⟨v310, rfl, ho0, hb⟩; refine ⟨_, rfl, ?_⟩; have n0_ := aM (rE (by (with_reducible repeat (first | apply rA | apply rN | apply rD)); exact HO308.out) (Kd.R_base ho0) hb); have n1_ := aM (Kd.R_lower (Kd.R_new' ho0 (Kd.R_lt (by (with_reducible repeat (first | apply rA | apply rN | apply rD)); exact HO308.out))) (below_size (by with_reducible repeat (first | exact HB.out | apply bA | apply bN | apply bD)))); have n2_ := aM (bS (by with_reducible repeat (first | exact HB.out | apply bA | apply bN | apply bD)) hb); clear HO308; clear HB; have HO308 := n0_; have HO311 := n1_; have HB := n2_; clear n0_ n1_ n2_; (try clear hb); (try clear hb2); (try clear hk); (try clear hi); (try clear ho0)))
 go_loopg [5, 6] k (fun kq v5 v6 w' => ∃ (x5_1 : List (S35)) (x6_1 : Int), v6 = .int .i64 x6_1 ∧ Aside0 (mapmakerref20_Odd.l0 kq t306 t309 x5_1 x6_1 = some r) ∧ Aside0 (kq ≤ k) ∧ Aside0 (Kd.R k35 35 w' w.heap.size (fun k_ => some k_ ≠ (v310 : Value).ownBlock ∧ some k_ ≠ (v5 : Value).ownBlock) v307 t306) ∧ Aside0 (Kd.R k35 35 w' w.heap.size (fun k_ => some k_ ≠ (v307 : Value).ownBlock ∧ some k_ ≠ (v5 : Value).ownBlock) v310 t309) ∧ Aside0 (Kd.R k35 35 w' w.heap.size (fun k_ => some k_ ≠ (v307 : Value).ownBlock ∧ some k_ ≠ (v310 : Value).ownBlock) v5 x5_1) ∧ Aside0 (Below w.heap.size w w'))
 case atStart => exact ⟨(([] : List (S35))), (0), (by first | rfl | (simp; done) | (simp [*]; done)), H', ⟨Nat.le_refl _⟩, ⟨by (with_reducible repeat (first | apply rA | apply rN | apply rD)); exact rM HO308.out (fun _ hk => ⟨hk.2, (by simp [Value.ownBlock])⟩)⟩, ⟨by (with_reducible repeat (first | apply rA | apply rN | apply rD)); exact rM HO311.out (fun _ hk => ⟨hk.2, (by simp [Value.ownBlock])⟩)⟩, ⟨by first | exact Kd.R_nil _ _ _ _ _ | exact Kd.N_nil _ _ _ _ _ | exact Kd.V_nil _ _ _ _ _ | exact Kd.Q_nil _ _ _ _ _ | exact Kd.S_nil _ _ _ _ _⟩, ⟨by with_reducible repeat (first | exact HB.out | apply bA | apply bN | apply bD)⟩⟩
 case round =>
  clear H'
  try clear c1
  try clear p2
  obtain ⟨x5_1, x6_1, rfl, HA, HK1, HO_3, HO_4, HO_5, HB⟩ := hrel
  cases gk with
  | zero => exact absurd HA.out (by simp [mapmakerref20_Odd.l0])
  | succ k1 =>
   have H := HA.out
   clear HA
   simp only [mapmakerref20_Odd.l0] at H
   by_cases c6 : x6_1 < (t309.length : Int)
   ·rw [if_pos c6] at H
    have c6b0 : decide (x6_1 < (t309.length : Int)) = true := decide_eq_true c6
    clear c6
    by_cases c7 : 0 ≤ x6_1
    ·rw [if_pos c7] at H
     have c7b0 : decide (0 ≤ x6_1) = true := decide_eq_true c7
     clear c7
     replace H := Option.bind_eq_some_iff.mp H
     obtain ⟨t313, A80, H⟩ := H
     replace H : (if (Int.tmod t313 2) = 1 then (if x5_1.length < 4398046511104 then (mapmakerref20_Odd.l0 k1 t306 t309 (x5_1 ++ [(⟨(⟨(rd_T35 t309 x6_1).f0.f0, (rd_T35 t309 x6_1).f0.f1⟩ : S33), (⟨(rd_T35 t309 x6_1).f1.f0, (rd_T35 t309 x6_1).f1.f1⟩ : S33)⟩ : S35)]) (wrap64 (x6_1 + 1))) else (none)) else (mapmakerref20_Odd.l0 k1 t306 t309 x5_1 (wrap64 (x6_1 + 1)))) = some r := H
     have A8 := aM A80
     clear A80
     by_cases c9 : (Int.tmod t313 2) = 1
     ·rw [if_pos c9] at H
      have c9b0 : ((Int.tmod t313 2) == 1) = true := beq_iff_eq.mpr c9
      have c9b1 : ((Int.tmod t313 2) != 1) = false := bne_eq_false_iff_eq.mpr c9
      clear c9
      by_cases c10 : x5_1.length < 4398046511104
      ·rw [if_pos c10] at H
       have LMc10 := aM c10
       clear c10
       obtain ⟨y315, hy315⟩ : ∃ y_ : List (S35), y_ = (x5_1 ++ [(⟨(⟨(rd_T35 t309 x6_1).f0.f0, (rd_T35 t309 x6_1).f0.f1⟩ : S33), (⟨(rd_T35 t309 x6_1).f1.f0, (rd_T35 t309 x6_1).f1.f1⟩ : S33)⟩ : S35)]) := ⟨_, rfl⟩
       replace H : (mapmakerref20_Odd.l0 k1 t306 t309 y315 (wrap64 (x6_1 + 1))) = some r := by first | (rw [hy315]; with_reducible exact H) | (have H2_ := (Option.bind_some _ _).symm.trans H; rw [hy315]; with_reducible exact H2_) | (have H2_ := (Option.bind_some _ _).symm.trans H; with_reducible exact H2_) | with_reducible exact H | (rw [hy315]; exact H) | exact H
       have Ny315 := aM hy315
       clear hy315
       have H' := aM H
       clear H
       obtain ⟨Ao11, co11, eo11⟩ := Kd.R_slice HO_4.out
       subst eo11
       have p312 : 0 ≤ (x6_1 : Int) := of_decide_eq_true (by first | (with_reducible assumption) | assumption)
       have q312 : x6_1 < (t309.length : Int) := of_decide_eq_true (by first | (with_reducible assumption) | assumption)
       obtain ⟨ad312, e312, hx312_0, hx312_1, hx312_2, hx312_3⟩ := at_T35 (rR HO_4.out).2.2 x6_1 p312 q312
       cases e312
       replace p312 := eq_true p312
       replace q312 := eq_true q312
       obtain ⟨Ao12, co12, eo12⟩ := Kd.R_slice HO_3.out
       subst eo12
       go_wp2_with (first | ((with_reducible refine gate_callee (f := 38) rfl ?_); refine goesL_ (some 22) rfl rfl Try.func38 (by kernel_rfl) rfl #[.slice Ao12 t306.length co12, .agg #[.int .i64 ((rd_T35 t309 x6_1).f0.f0), .int .i64 ((rd_T35 t309 x6_1).f0.f1), .int .i64 ((rd_T35 t309 x6_1).f1.f0), .int .i64 ((rd_T35 t309 x6_1).f1.f1)]] rfl (by (try simp only [List.map_toArray, List.map_cons, List.map_nil]); first | done | rfl | (simp only [List.length_drop, List.length_take]; rfl)) ?_; (with_reducible refine (mapmakerref20_times.calls k1 _ _ t306 ((rd_T35 t309 x6_1).f0.f0) ((rd_T35 t309 x6_1).f0.f1) ((rd_T35 t309 x6_1).f1.f0) ((rd_T35 t309 x6_1).f1.f1) t313 _ ?side1 ?side2 A8.out).mono ?_); (case side1 => repeat (first | exact (rR HO_3.out).2.2 | (with_reducible refine cA ?_ _) | (with_reducible refine cN ?_ _) | (with_reducible refine cD ?_))); (case side2 => exact (rR HO_3.out).2.1); rintro e w13 ⟨rfl, hb⟩; refine ⟨_, rfl, ?_⟩; have n0_ := aM (rB (by (with_reducible repeat (first | apply rA | apply rN | apply rD)); exact HO_3.out) hb); have n1_ := aM (rB (by (with_reducible repeat (first | apply rA | apply rN | apply rD)); exact HO_4.out) hb); have n2_ := aM (rB (by (with_reducible repeat (first | apply rA | apply rN | apply rD)); exact HO_5.out) hb); have n3_ := aM (bS (by with_reducible repeat (first | exact HB.out | apply bA | apply bN | apply bD)) hb); clear HO_3; clear HO_4; clear HO_5; clear HB; have HO_3 := n0_; have HO_4 := n1_; have HO_5 := n2_; have HB := n3_; clear n0_ n1_ n2_ n3_; (try clear hb); (try clear hb2); (try clear hk); (try clear hi); have p314 : 0 ≤ (x6_1 : Int) := of_decide_eq_true (by first | (with_reducible assumption) | assumption); have q314 : x6_1 < (t309.length : Int) := of_decide_eq_true (by first | (with_reducible assumption) | assumption); obtain ⟨ad314, e314, hx314_0, hx314_1, hx314_2, hx314_3⟩ := at_T35 (rR HO_4.out).2.2 x6_1 p314 q314; obtain rfl : ad312 = ad314 := (by injection e314); replace p314 := eq_true p314; replace q314 := eq_true q314) | ((with_reducible refine gate_builtin (b := .append) (xs := #[.tmp 25, .tmp 30]) rfl ?_); at_builtin; refine Kd.R_append k35 (w0 := w) w.heap.size rfl (.tmp 25) (.tmp 30) 23 35 (.agg #[(.int .i64 0), (.int .i64 0), (.int .i64 0), (.int .i64 0)]) 32 rfl Try.underlying23 info35 rfl (by decide) (by omega) u5 x5_1 (⟨(⟨(rd_T35 t309 x6_1).f0.f0, (rd_T35 t309 x6_1).f0.f1⟩ : S33), (⟨(rd_T35 t309 x6_1).f1.f0, (rd_T35 t309 x6_1).f1.f1⟩ : S33)⟩ : S35) [.int .i64 ((rd_T35 t309 x6_1).f0.f0), .int .i64 ((rd_T35 t309 x6_1).f0.f1), .int .i64 ((rd_T35 t309 x6_1).f1.f0), .int .i64 ((rd_T35 t309 x6_1).f1.f1)] (fun k_ => some k_ ≠ (.slice Ao12 t306.length co12 : Value).ownBlock ∧ some k_ ≠ (.slice (some ad312) t309.length co11 : Value).ownBlock) (fun _ => False) rfl rfl ?aP (fun _ hk => hk.elim) ?aF ?aO ?aB ?aS ?aL ?_; (case aP => exact k35_mkM _ _ _ (⟨(⟨(rd_T35 t309 x6_1).f0.f0, (rd_T35 t309 x6_1).f0.f1⟩ : S33), (⟨(rd_T35 t309 x6_1).f1.f0, (rd_T35 t309 x6_1).f1.f1⟩ : S33)⟩ : S35)); (case aB => exact (by with_reducible repeat (first | exact HB.out | apply bA | apply bN | apply bD))); (case aF => exact (fun k_ hk => ⟨Kd.fresh' (Kd.R_lt (by (with_reducible repeat (first | apply rA | apply rN | apply rD)); exact HO_3.out)) k_ hk, Kd.fresh' (Kd.R_lt (by (with_reducible repeat (first | apply rA | apply rN | apply rD)); exact HO_4.out)) k_ hk⟩)); (case aO => exact (by (with_reducible repeat (first | apply rA | apply rN | apply rD)); exact HO_5.out)); (case aS => exact (below_size (by with_reducible repeat (first | exact HB.out | apply bA | apply bN | apply bD)))); (case aL => have := LMc10.out; omega); intro v316 w14 ho hb hg hat; rw [← Ny315.out] at ho; have n0_ := aM (Kd.R_after (ok := (fun k_ => some k_ ≠ (.slice (some ad312) t309.length co11 : Value).ownBlock)) (by (with_reducible repeat (first | apply rA | apply rN | apply rD)); exact HO_3.out) hg hat); have n1_ := aM (Kd.R_after (ok := (fun k_ => some k_ ≠ (.slice Ao12 t306.length co12 : Value).ownBlock)) (by (with_reducible repeat (first | apply rA | apply rN | apply rD)); exact HO_4.out) hg hat); have n2_ := aM (hb); have n3_ := aM (ho); clear HO_3; clear HO_4; clear HB; clear HO_5; have HO_3 := n0_; have HO_4 := n1_; have HB := n2_; have HO317 := n3_; clear n0_ n1_ n2_ n3_; clear ho hb hg hat))
       go_roundg k1
       case measure => have := HK1.out; omega
       case rel => exact ⟨(y315), (wrap64 (x6_1 + 1)), (by first | rfl | (simp; done) | (simp [*]; done)), H', ⟨by have := HK1.out; omega⟩, ⟨by (with_reducible repeat (first | apply rA | apply rN | apply rD)); exact HO_3.out⟩, ⟨by (with_reducible repeat (first | apply rA | apply rN | apply rD)); exact HO_4.out⟩, ⟨by (with_reducible repeat (first | apply rA | apply rN | apply rD)); exact HO317.out⟩, ⟨by with_reducible repeat (first | exact HB.out | apply bA | apply bN | apply bD)⟩⟩
      ·rw [if_neg c10] at H
       exact absurd H (by simp)
     ·rw [if_neg c9] at H
      have c9b0 : ((Int.tmod t313 2) == 1) = false := beq_eq_false_iff_ne.mpr c9
      have c9b1 : ((Int.tmod t313 2) != 1) = true := bne_iff_ne.mpr c9
      have H' := aM H
      clear H
      obtain ⟨Ao15, co15, eo15⟩ := Kd.R_slice HO_4.out
      subst eo15
      have p312 : 0 ≤ (x6_1 : Int) := of_decide_eq_true (by first | (with_reducible assumption) | assumption)
      have q312 : x6_1 < (t309.length : Int) := of_decide_eq_true (by first | (with_reducible assumption) | assumption)
      obtain ⟨ad312, e312, hx312_0, hx312_1, hx312_2, hx312_3⟩ := at_T35 (rR HO_4.out).2.2 x6_1 p312 q312
      cases e312
      replace p312 := eq_true p312
      replace q312 := eq_true q312
      obtain ⟨Ao16, co16, eo16⟩ := Kd.R_slice HO_3.out
      subst eo16
      go_wp2_with (first | ((with_reducible refine gate_callee (f := 38) rfl ?_); refine goesL_ (some 22) rfl rfl Try.func38 (by kernel_rfl) rfl #[.slice Ao16 t306.length co16, .agg #[.int .i64 ((rd_T35 t309 x6_1).f0.f0), .int .i64 ((rd_T35 t309 x6_1).f0.f1), .int .i64 ((rd_T35 t309 x6_1).f1.f0), .int .i64 ((rd_T35 t309 x6_1).f1.f1)]] rfl (by (try simp only [List.map_toArray, List.map_cons, List.map_nil]); first | done | rfl | (simp only [List.length_drop, List.length_take]; rfl)) ?_; (with_reducible refine (mapmakerref20_times.calls k1 _ _ t306 ((rd_T35 t309 x6_1).f0.f0) ((rd_T35 t309 x6_1).f0.f1) ((rd_T35 t309 x6_1).f1.f0) ((rd_T35 t309 x6_1).f1.f1) t313 _ ?side1 ?side2 A8.out).mono ?_); (case side1 => repeat (first | exact (rR HO_3.out).2.2 | (with_reducible refine cA ?_ _) | (with_reducible refine cN ?_ _) | (with_reducible refine cD ?_))); (case side2 => exact (rR HO_3.out).2.1); rintro e w17 ⟨rfl, hb⟩; refine ⟨_, rfl, ?_⟩; have n0_ := aM (rB (by (with_reducible repeat (first | apply rA | apply rN | apply rD)); exact HO_3.out) hb); have n1_ := aM (rB (by (with_reducible repeat (first | apply rA | apply rN | apply rD)); exact HO_4.out) hb); have n2_ := aM (rB (by (with_reducible repeat (first | apply rA | apply rN | apply rD)); exact HO_5.out) hb); have n3_ := aM (bS (by with_reducible repeat (first | exact HB.out | apply bA | apply bN | apply bD)) hb); clear HO_3; clear HO_4; clear HO_5; clear HB; have HO_3 := n0_; have HO_4 := n1_; have HO_5 := n2_; have HB := n3_; clear n0_ n1_ n2_ n3_; (try clear hb); (try clear hb2); (try clear hk); (try clear hi)))
      go_roundg k1
      case measure => have := HK1.out; omega
      case rel => exact ⟨(x5_1), (wrap64 (x6_1 + 1)), (by first | rfl | (simp; done) | (simp [*]; done)), H', ⟨by have := HK1.out; omega⟩, ⟨by (with_reducible repeat (first | apply rA | apply rN | apply rD)); exact HO_3.out⟩, ⟨by (with_reducible repeat (first | apply rA | apply rN | apply rD)); exact HO_4.out⟩, ⟨by (with_reducible repeat (first | apply rA | apply rN | apply rD)); exact HO_5.out⟩, ⟨by with_reducible repeat (first | exact HB.out | apply bA | apply bN | apply bD)⟩⟩
    ·rw [if_neg c7] at H
     exact absurd H (by simp)
   ·rw [if_neg c6] at H
    have c6b0 : decide (x6_1 < (t309.length : Int)) = false := decide_eq_false c6
    clear c6
    obtain rfl := Option.some.inj H
    obtain ⟨Ao18, co18, eo18⟩ := Kd.R_slice HO_4.out
    subst eo18
    go_wp2
    go_ret
    exact ⟨_, by first | rfl | (simp [errW_none, errW_some] <;> rfl) | (simp [*, errW_none, errW_some] <;> rfl), by (with_reducible repeat (first | apply rA | apply rN | apply rD)); exact rM HO_5.out (fun _ hk => trivial), by with_reducible repeat (first | exact HB.out | apply bA | apply bN | apply bD)⟩
end Go.Proofs.Ytmejeiddlhjjmaa.PNodingSorts
