-- out of a driver of this session's prover over the kit's print: Lean checks it
import Derived.Test.YtmejeiddlhjjmaaPNodingCrossesx0
import Derived.Test.YtmejeiddlhjjmaaPNodingCrossesx2
import Derived.Test.YtmejeiddlhjjmaaPNodingCrossesx13
import Derived.Test.YtmejeiddlhjjmaaPNodingCrossesx14
namespace Go.Proofs.Ytmejeiddlhjjmaa.PNodingCrosses
open Go.Proofs.YtmejeiddlhjjmaaG Go.Shelf Go.Lib
open Go.RowKit Go.Proofs.YtmejeiddlhjjmaaW.PrintWords Go.Proofs.YtmejeiddlhjjmaaW.PrintLast Go.Proofs.YtmejeiddlhjjmaaW.PrintMore
attribute [local go_sem] max2_int min2_int max_two min_two max_three min_three max_four min_four   -- for this text's walks alone
set_option linter.unusedVariables false
set_option linter.unusedSimpArgs false
attribute [local go_sem high] eqA35
def mapmakerref20_Sort.l0 : Nat → List (S35) → List (S35) → Int → Option ((List (S35)))
 | 0, _, _, _ => none
 | k + 1, x0, x3, x4 => if x4 < (x0.length : Int) then (if 0 ≤ x4 then ((mapmakerref20_good.f ((rd_T35 x0 x4).f0.f0) ((rd_T35 x0 x4).f0.f1) ((rd_T35 x0 x4).f1.f0) ((rd_T35 x0 x4).f1.f1)).bind fun t269 => (if t269 = true then ((mapmakerref09_Of.f ((rd_T35 x0 x4).f0.f0) ((rd_T35 x0 x4).f0.f1) ((rd_T35 x0 x4).f1.f0) ((rd_T35 x0 x4).f1.f1)).bind fun bt272 => ((mapmakerref20_insert.f k x3 bt272.1 bt272.2.1 bt272.2.2.1 bt272.2.2.2).bind fun t276 => (mapmakerref20_Sort.l0 k x0 t276 (wrap64 (x4 + 1))))) else (mapmakerref20_Sort.l0 k x0 x3 (wrap64 (x4 + 1))))) else (none)) else (some x3)
def mapmakerref20_Sort.f (k : Nat) (l0 : List (S35)) : Option ((List (S35))) := mapmakerref20_Sort.l0 k l0 ([] : List (S35)) 0
theorem mapmakerref20_Sort.mono_l : ∀ k, (∀ y0 y1 y2, LeO (mapmakerref20_Sort.l0 k y0 y1 y2) (mapmakerref20_Sort.l0 (k + 1) y0 y1 y2))
 | 0 => fun _ _ _ r h => by simp [mapmakerref20_Sort.l0] at h
 | k + 1 => by
  have ih0 := mapmakerref20_Sort.mono_l k
  ·intro y0 y1 y2
   unfold mapmakerref20_Sort.l0
   repeat' first
   | (with_reducible exact ih0 _ _ _)
   | (with_reducible exact mapmakerref20_insert.mono _ _ _ _ _ _)
   | (with_reducible exact LeO.refl _)
   | (with_reducible exact LeO.none _)
   | (with_reducible refine LeO.ite ?_ ?_)
   | (with_reducible refine LeO.bind ?_ (fun _ => ?_))
   | exact ih0 _ _ _
   | exact mapmakerref20_insert.mono _ _ _ _ _ _
   | exact LeO.none _
   | refine LeO.ite ?_ ?_
   | refine LeO.bind ?_ (fun _ => ?_)
theorem mapmakerref20_Sort.mono : ∀ a0 k, LeO (mapmakerref20_Sort.f k a0) (mapmakerref20_Sort.f (k + 1) a0) := by
 intro a0 k
 have ih0 := mapmakerref20_Sort.mono_l k
 unfold mapmakerref20_Sort.f
 repeat' first
   | (with_reducible exact ih0 _ _ _)
   | (with_reducible exact mapmakerref20_insert.mono _ _ _ _ _ _)
   | (with_reducible exact LeO.refl _)
   | (with_reducible exact LeO.none _)
   | (with_reducible refine LeO.ite ?_ ?_)
   | (with_reducible refine LeO.bind ?_ (fun _ => ?_))
   | exact ih0 _ _ _
   | exact mapmakerref20_insert.mono _ _ _ _ _ _
   | exact LeO.none _
   | refine LeO.ite ?_ ?_
   | refine LeO.bind ?_ (fun _ => ?_)
def mapmakerref20_Sort.T6 : Bool × List (List Nat × List Nat) := (true, [([], []), ([], []), ([], []), ([1, 2], [1, 2]), ([3], [3]), ([4], [4]), ([], []), ([], []), ([6, 7], [6, 7]), ([8], [8]), ([9], [9]), ([5, 10], [5, 10]), ([0, 11, 11], [0, 11]), ([12, 12, 0, 1, 2, 3, 4, 5, 6, 7, 8, 9, 10, 11, 12], [0, 12])])
def mapmakerref20_Sort.B6 : List Nat := [0, 0, 0, 6, 14, 30, 0, 0, 192, 448, 960, 2046, 4095, 8191]
theorem mapmakerref20_Sort.tab6 : rtab .any (opsOf Try.f14 6) = mapmakerref20_Sort.T6 := by kernel_rfl
theorem mapmakerref20_Sort.bits6 : waitsOk mapmakerref20_Sort.T6.2 mapmakerref20_Sort.B6 = true := by kernel_rfl
set_option maxHeartbeats 8000000 in
set_option maxRecDepth 100000 in
theorem mapmakerref20_Sort.calls (k : Nat) (A0 : Option Addr) (c0 : Nat) (l0 : List (S35)) (r : List (S35)) (w : World) (hr0 : Kd.C k35 w A0 l0.length l0) (hc0 : l0.length ≤ c0) (h : mapmakerref20_Sort.f k l0 = some r) :
  Calls Try.prog 14 #[.slice A0 l0.length c0] w fun e w' => ∃ v0_ : Value, e = .returned (v0_) ∧ Kd.R k35 35 w' w.heap.size (fun _ => True) v0_ r ∧ Below w.heap.size w w' := by
 have hu35 := Try.underlying35
 have hu33 := Try.underlying33
 have HR0 := aM hr0
 have HC0 := aM hc0
 clear hr0 hc0
 have HB := aM (Below.refl w.heap.size w)
 have H : (mapmakerref20_Sort.l0 k l0 ([] : List (S35)) 0) = some r := h
 clear h
 have H' := aM H
 clear H
 go_enter Try.func14, Try.ntmps14
 go_wp2
 go_loopg [3, 4] k (fun kq v3 v4 w' => ∃ (x3_1 : List (S35)) (x4_1 : Int), v4 = .int .i64 x4_1 ∧ Aside0 (mapmakerref20_Sort.l0 kq l0 x3_1 x4_1 = some r) ∧ Aside0 (kq ≤ k) ∧ Aside0 (Kd.R k35 35 w' w.heap.size (fun _ => True) v3 x3_1) ∧ Aside0 (Below w.heap.size w w'))
 case atStart => exact ⟨(([] : List (S35))), (0), (by first | rfl | (simp; done) | (simp [*]; done)), H', ⟨Nat.le_refl _⟩, ⟨by first | exact Kd.R_nil _ _ _ _ _ | exact Kd.N_nil _ _ _ _ _ | exact Kd.V_nil _ _ _ _ _ | exact Kd.Q_nil _ _ _ _ _ | exact Kd.S_nil _ _ _ _ _⟩, ⟨bl⟩⟩
 case round =>
  clear H'
  try clear c1
  obtain ⟨x3_1, x4_1, rfl, HA, HK1, HO_3, HB⟩ := hrel
  cases gk with
  | zero => exact absurd HA.out (by simp [mapmakerref20_Sort.l0])
  | succ k1 =>
   have H := HA.out
   clear HA
   simp only [mapmakerref20_Sort.l0] at H
   by_cases c2 : x4_1 < (l0.length : Int)
   ·rw [if_pos c2] at H
    have c2b0 : decide (x4_1 < (l0.length : Int)) = true := decide_eq_true c2
    clear c2
    by_cases c3 : 0 ≤ x4_1
    ·rw [if_pos c3] at H
     have c3b0 : decide (0 ≤ x4_1) = true := decide_eq_true c3
     clear c3
     replace H := Option.bind_eq_some_iff.mp H
     obtain ⟨t269, A40, H⟩ := H
     try dsimp only at H
     have A4 := aM A40
     clear A40
     by_cases c5 : t269 = true
     ·subst c5
      have H1 : ((mapmakerref09_Of.f ((rd_T35 l0 x4_1).f0.f0) ((rd_T35 l0 x4_1).f0.f1) ((rd_T35 l0 x4_1).f1.f0) ((rd_T35 l0 x4_1).f1.f1)).bind fun bt272 => ((mapmakerref20_insert.f k1 x3_1 bt272.1 bt272.2.1 bt272.2.2.1 bt272.2.2.2).bind fun t276 => (mapmakerref20_Sort.l0 k1 l0 t276 (wrap64 (x4_1 + 1))))) = some r := by rw [if_pos rfl] at H; exact H
      clear H
      have H := H1
      clear H1
      replace H := Option.bind_eq_some_iff.mp H
      obtain ⟨⟨t272, t273, t274, t275⟩, A60, H⟩ := H
      replace H : ((mapmakerref20_insert.f k1 x3_1 t272 t273 t274 t275).bind fun t276 => (mapmakerref20_Sort.l0 k1 l0 t276 (wrap64 (x4_1 + 1)))) = some r := H
      have A6 := aM A60
      clear A60
      replace H := Option.bind_eq_some_iff.mp H
      obtain ⟨t276, A70, H⟩ := H
      try dsimp only at H
      have A7 := aM A70
      clear A70
      have H' := aM H
      clear H
      have p268 : 0 ≤ (x4_1 : Int) := of_decide_eq_true (by first | (with_reducible assumption) | assumption)
      have q268 : x4_1 < (l0.length : Int) := of_decide_eq_true (by first | (with_reducible assumption) | assumption)
      obtain ⟨ad268, e268, hx268_0, hx268_1, hx268_2, hx268_3⟩ := at_T35 HR0.out x4_1 p268 q268
      cases e268
      replace hx268_0 := (HB.out.cell (World.block_lt_of_cell? w _ hx268_0)).trans hx268_0
      replace hx268_1 := (HB.out.cell (World.block_lt_of_cell? w _ hx268_1)).trans hx268_1
      replace hx268_2 := (HB.out.cell (World.block_lt_of_cell? w _ hx268_2)).trans hx268_2
      replace hx268_3 := (HB.out.cell (World.block_lt_of_cell? w _ hx268_3)).trans hx268_3
      replace p268 := eq_true p268
      replace q268 := eq_true q268
      try go_wp2_with (first | ((with_reducible refine gate_callee (f := 30) rfl ?_); refine goesL_ (some 15) rfl rfl Try.func30 (by kernel_rfl) rfl #[.agg #[.int .i64 ((rd_T35 l0 x4_1).f0.f0), .int .i64 ((rd_T35 l0 x4_1).f0.f1), .int .i64 ((rd_T35 l0 x4_1).f1.f0), .int .i64 ((rd_T35 l0 x4_1).f1.f1)]] rfl (by (try simp only [List.map_toArray, List.map_cons, List.map_nil]); first | done | rfl | (simp only [List.length_drop, List.length_take]; rfl)) ?_; (with_reducible refine (mapmakerref20_good.calls ((rd_T35 l0 x4_1).f0.f0) ((rd_T35 l0 x4_1).f0.f1) ((rd_T35 l0 x4_1).f1.f0) ((rd_T35 l0 x4_1).f1.f1) true _ A4.out).mono ?_); rintro e w8 ⟨rfl, hb⟩; refine ⟨_, rfl, ?_⟩; replace HO_3 := aM (rB (rl HO_3) hb); replace HB := aM (bS (bl) hb); (try clear hb); (try clear hb2); (try clear hk); (try clear hi)))
      replace HO_3 := aM (rD HO_3.out)
      replace HB := aM (bD HB.out)
      have p270 : 0 ≤ (x4_1 : Int) := of_decide_eq_true (by first | (with_reducible assumption) | assumption)
      have q270 : x4_1 < (l0.length : Int) := of_decide_eq_true (by first | (with_reducible assumption) | assumption)
      obtain ⟨ad270, e270, hx270_0, hx270_1, hx270_2, hx270_3⟩ := at_T35 HR0.out x4_1 p270 q270
      have hw270_3 := hx270_3
      have hw270_2 := hx270_2
      have hw270_1 := hx270_1
      have hw270_0 := hx270_0
      obtain rfl : ad268 = ad270 := (by injection e270)
      replace hx270_0 := (HB.out.cell (World.block_lt_of_cell? w _ hx270_0)).trans hx270_0
      replace hx270_1 := (HB.out.cell (World.block_lt_of_cell? w _ hx270_1)).trans hx270_1
      replace hx270_2 := (HB.out.cell (World.block_lt_of_cell? w _ hx270_2)).trans hx270_2
      replace hx270_3 := (HB.out.cell (World.block_lt_of_cell? w _ hx270_3)).trans hx270_3
      replace p270 := eq_true p270
      replace q270 := eq_true q270
      have p271 : 0 ≤ (x4_1 : Int) := of_decide_eq_true (by first | (with_reducible assumption) | assumption)
      have q271 : x4_1 < (l0.length : Int) := of_decide_eq_true (by first | (with_reducible assumption) | assumption)
      obtain ⟨ad271, e271, hx271_0, hx271_1, hx271_2, hx271_3⟩ := at_T35 HR0.out x4_1 p271 q271
      have hw271_3 := hx271_3
      have hw271_2 := hx271_2
      have hw271_1 := hx271_1
      have hw271_0 := hx271_0
      obtain rfl : ad268 = ad271 := (by injection e271)
      replace hx271_0 := (HB.out.cell (World.block_lt_of_cell? w _ hx271_0)).trans hx271_0
      replace hx271_1 := (HB.out.cell (World.block_lt_of_cell? w _ hx271_1)).trans hx271_1
      replace hx271_2 := (HB.out.cell (World.block_lt_of_cell? w _ hx271_2)).trans hx271_2
      replace hx271_3 := (HB.out.cell (World.block_lt_of_cell? w _ hx271_3)).trans hx271_3
      replace p271 := eq_true p271
      replace q271 := eq_true q271
      refine start_ (n := 14) (S := fun w' => w'.cell? (ad268.add ((x4_1).toNat * 4)) = some (.int .i64 ((rd_T35 l0 x4_1).f0.f0)) ∧ w'.cell? ⟨(ad268.add ((x4_1).toNat * 4)).block, (ad268.add ((x4_1).toNat * 4)).off + 1, none⟩ = some (.int .i64 ((rd_T35 l0 x4_1).f0.f1)) ∧ w'.cell? ⟨(ad268.add ((x4_1).toNat * 4)).block, (ad268.add ((x4_1).toNat * 4)).off + 2, none⟩ = some (.int .i64 ((rd_T35 l0 x4_1).f1.f0)) ∧ w'.cell? ⟨(ad268.add ((x4_1).toNat * 4)).block, (ad268.add ((x4_1).toNat * 4)).off + 3, none⟩ = some (.int .i64 ((rd_T35 l0 x4_1).f1.f1)) ∧ w'.cell? (ad268.add ((x4_1).toNat * 4)) = some (.int .i64 ((rd_T35 l0 x4_1).f0.f0)) ∧ w'.cell? ⟨(ad268.add ((x4_1).toNat * 4)).block, (ad268.add ((x4_1).toNat * 4)).off + 1, none⟩ = some (.int .i64 ((rd_T35 l0 x4_1).f0.f1)) ∧ w'.cell? ⟨(ad268.add ((x4_1).toNat * 4)).block, (ad268.add ((x4_1).toNat * 4)).off + 2, none⟩ = some (.int .i64 ((rd_T35 l0 x4_1).f1.f0)) ∧ w'.cell? ⟨(ad268.add ((x4_1).toNat * 4)).block, (ad268.add ((x4_1).toNat * 4)).off + 3, none⟩ = some (.int .i64 ((rd_T35 l0 x4_1).f1.f1))) (ds := []) #[false, false, false, false, false, false, false, false, false, false, false, false, false, false] (by kernel_rfl) rfl rfl ⟨((HB.out.cell (World.block_lt_of_cell? w _ hw270_0)).trans hw270_0), ((HB.out.cell (World.block_lt_of_cell? w _ hw270_1)).trans hw270_1), ((HB.out.cell (World.block_lt_of_cell? w _ hw270_2)).trans hw270_2), ((HB.out.cell (World.block_lt_of_cell? w _ hw270_3)).trans hw270_3), ((HB.out.cell (World.block_lt_of_cell? w _ hw271_0)).trans hw271_0), ((HB.out.cell (World.block_lt_of_cell? w _ hw271_1)).trans hw271_1), ((HB.out.cell (World.block_lt_of_cell? w _ hw271_2)).trans hw271_2), ((HB.out.cell (World.block_lt_of_cell? w _ hw271_3)).trans hw271_3)⟩ (fun hHeld => ?_); refine with_tabW mapmakerref20_Sort.tab6 mapmakerref20_Sort.bits6 (fun HT_ HW_ => ?_)
      generalize w8.drew = w9 at HO_3 HB hx270_0 hx270_1 hx270_2 hx270_3 hx271_0 hx271_1 hx271_2 hx271_3 hHeld ⊢
      refine pure_ (i := 0) (N := some 16) (v := ?_) (a' := ?_) (ba 14 1) rfl rfl (any_of HT_.out (by kernel_rfl)) (fun _ _ _ h => h) (Or.inl ⟨by rfl, ?_⟩) ?_ ?_
      rotate_left
      ·intro w'
       go_simp
       with_reducible rfl
      rotate_left
      ·simp only [Act.put, sA, sB, sC, i64_w, i32_w]
       rfl
      refine pure_ (i := 1) (N := some 17) (v := ?_) (a' := ?_) (ba 14 3) rfl rfl (any_of HT_.out (by kernel_rfl)) (fun _ _ _ h => h) (Or.inl ⟨by rfl, ?_⟩) ?_ ?_
      rotate_left
      ·intro w'
       go_simp
       with_reducible rfl
      rotate_left
      ·simp only [Act.put, sA, sB, sC, i64_w, i32_w]
       rfl
      refine pure_ (i := 2) (N := some 18) (v := ?_) (a' := ?_) (ba 14 7) rfl rfl (any_of HT_.out (by kernel_rfl)) (fun _ _ _ h => h) (Or.inl ⟨by rfl, ?_⟩) ?_ ?_
      rotate_left
      ·intro w'
       go_simp
       with_reducible rfl
      rotate_left
      ·simp only [Act.put, sA, sB, sC, i64_w, i32_w]
       rfl
      refine pure_ (i := 3) (N := some 19) (v := ?_) (a' := ?_) (ba 14 15) rfl rfl (any_of HT_.out (by kernel_rfl)) (fun _ _ _ h => h) (Or.inl ⟨by rfl, ?_⟩) ?_ ?_
      rotate_left
      ·intro w'
       go_simp
       with_reducible rfl
      rotate_left
      ·simp only [Act.put, sA, sB, sC, i64_w, i32_w]
       rfl
      refine pure_ (i := 4) (N := some 20) (v := ?_) (a' := ?_) (ba 14 31) rfl rfl (any_of HT_.out (by kernel_rfl)) (fun _ _ _ h => h) (Or.inl ⟨by rfl, ?_⟩) ?_ ?_
      rotate_left
      ·intro w'
       go_simp
       with_reducible rfl
      rotate_left
      ·simp only [Act.put, sA, sB, sC, i64_w, i32_w]
       rfl
      refine pure_ (i := 6) (N := some 22) (v := ?_) (a' := ?_) (ba 14 95) rfl rfl (any_of HT_.out (by kernel_rfl)) (fun _ _ _ h => h) (Or.inl ⟨by rfl, ?_⟩) ?_ ?_
      rotate_left
      ·intro w'
       go_simp
       with_reducible rfl
      rotate_left
      ·simp only [Act.put, sA, sB, sC, i64_w, i32_w]
       rfl
      refine pure_ (i := 7) (N := some 23) (v := ?_) (a' := ?_) (ba 14 223) rfl rfl (any_of HT_.out (by kernel_rfl)) (fun _ _ _ h => h) (Or.inl ⟨by rfl, ?_⟩) ?_ ?_
      rotate_left
      ·intro w'
       go_simp
       with_reducible rfl
      rotate_left
      ·simp only [Act.put, sA, sB, sC, i64_w, i32_w]
       rfl
      refine pure_ (i := 8) (N := some 24) (v := ?_) (a' := ?_) (ba 14 479) rfl rfl (any_of HT_.out (by kernel_rfl)) (fun _ _ _ h => h) (Or.inl ⟨by rfl, ?_⟩) ?_ ?_
      rotate_left
      ·intro w'
       go_simp
       with_reducible rfl
      rotate_left
      ·simp only [Act.put, sA, sB, sC, i64_w, i32_w]
       rfl
      refine pure_ (i := 9) (N := some 25) (v := ?_) (a' := ?_) (ba 14 991) rfl rfl (any_of HT_.out (by kernel_rfl)) (fun _ _ _ h => h) (Or.inl ⟨by rfl, ?_⟩) ?_ ?_
      rotate_left
      ·intro w'
       go_simp
       with_reducible rfl
      rotate_left
      ·simp only [Act.put, sA, sB, sC, i64_w, i32_w]
       rfl
      refine take_ (i := 5) (N := some 21) (v := ?_) (a' := ?_) (ba 14 1023) rfl rfl (take_ofW HT_.out HW_.out (by kernel_rfl)) (fun _ _ _ h => h) (Or.inl ⟨by rfl, ?_⟩) hHeld ?_ ?_
      rotate_left
      ·rintro w' ⟨s0, s1, s2, s3, s4, s5, s6, s7⟩
       go_simp
       with_reducible rfl
      rotate_left
      ·simp only [Act.put, sA, sB, sC, i64_w, i32_w]
       rfl
      refine take_ (i := 10) (N := some 26) (v := ?_) (a' := ?_) (ba 14 2047) rfl rfl (take_ofW HT_.out HW_.out (by kernel_rfl)) (fun _ _ _ h => h) (Or.inl ⟨by rfl, ?_⟩) hHeld ?_ ?_
      rotate_left
      ·rintro w' ⟨s0, s1, s2, s3, s4, s5, s6, s7⟩
       go_simp
       with_reducible rfl
      rotate_left
      ·simp only [Act.put, sA, sB, sC, i64_w, i32_w]
       rfl
      refine one_ (i := 11) (N := some 27) (ba 14 4095) rfl rfl (one_of HT_.out (by kernel_rfl)) (by decide) (fun K hK => ?_)
      refine goes_ Try.func31 (by kernel_rfl) rfl #[.agg #[.int .i64 ((rd_T35 l0 x4_1).f0.f0), .int .i64 ((rd_T35 l0 x4_1).f0.f1)], .agg #[.int .i64 ((rd_T35 l0 x4_1).f1.f0), .int .i64 ((rd_T35 l0 x4_1).f1.f1)]] (by rfl) rfl rfl (by (try simp only [List.map_toArray, List.map_cons, List.map_nil]); first | done | rfl | (simp only [List.length_drop, List.length_take]; rfl)) ?_
      with_reducible refine (mapmakerref09_Of.calls ((rd_T35 l0 x4_1).f0.f0) ((rd_T35 l0 x4_1).f0.f1) ((rd_T35 l0 x4_1).f1.f0) ((rd_T35 l0 x4_1).f1.f1) t272 t273 t274 t275 _ A6.out).mono ?_
      rintro e w10 ⟨rfl, hb⟩
      refine ⟨_, rfl, ?_⟩
      replace HO_3 := aM (rB (rl HO_3) hb)
      replace HB := aM (bS (bl) hb)
      (try clear hb)
      (try clear hb2)
      (try clear hk)
      (try clear hi)
      obtain ⟨Ao11, co11, eo11⟩ := Kd.R_slice HO_3.out
      (first | subst eo11 | (injection eo11 with f1_ f2_ f3_; have f4_ := f1_.symm; have f5_ := f3_.symm; clear f1_ f2_ f3_; subst f4_; subst f5_))
      refine hK.out _ _ ⟨((HB.out.cell (World.block_lt_of_cell? w _ hw270_0)).trans hw270_0), ((HB.out.cell (World.block_lt_of_cell? w _ hw270_1)).trans hw270_1), ((HB.out.cell (World.block_lt_of_cell? w _ hw270_2)).trans hw270_2), ((HB.out.cell (World.block_lt_of_cell? w _ hw270_3)).trans hw270_3), ((HB.out.cell (World.block_lt_of_cell? w _ hw271_0)).trans hw271_0), ((HB.out.cell (World.block_lt_of_cell? w _ hw271_1)).trans hw271_1), ((HB.out.cell (World.block_lt_of_cell? w _ hw271_2)).trans hw271_2), ((HB.out.cell (World.block_lt_of_cell? w _ hw271_3)).trans hw271_3)⟩ (fun hHeld => ?_)
      clear hK K
      refine norm_ (a' := ?_) ?_ ?_
      rotate_left
      ·show Act.put _ (some 27) _ = _
       simp only [Act.put, sA, sB, sC, i64_w, i32_w]
       rfl
      refine one_ (i := 12) (N := some 28) (ba 14 8191) rfl rfl (one_of HT_.out (by kernel_rfl)) (by decide) (fun K hK => ?_)
      refine goes_ Try.func34 (by kernel_rfl) rfl #[.slice Ao11 x3_1.length co11, .agg #[.int .i64 t272, .int .i64 t273, .int .i64 t274, .int .i64 t275]] (by rfl) rfl rfl (by (try simp only [List.map_toArray, List.map_cons, List.map_nil]); first | done | rfl | (simp only [List.length_drop, List.length_take]; rfl)) ?_
      with_reducible refine (mapmakerref20_insert.calls k1 _ _ x3_1 t272 t273 t274 t275 t276 _ ?side1 ?side2 A7.out).mono ?_
      (case side1 => repeat (first | exact (rR HO_3.out).2.2 | (with_reducible refine cA ?_ _) | (with_reducible refine cN ?_ _) | (with_reducible refine cD ?_)))
      (case side2 => exact (rR HO_3.out).2.1)
      rintro e w12 ⟨v277, rfl, ho0, hb⟩
      refine ⟨_, rfl, ?_⟩
      have HO278 := aM (Kd.R_lower (Kd.R_new' ho0 (Kd.R_lt (rl HO_3))) (below_size (bl)))
      replace HO_3 := aM (rE (rl HO_3) (Kd.R_base ho0) hb)
      replace HB := aM (bS (bl) hb)
      (try clear hb)
      (try clear hb2)
      (try clear hk)
      (try clear hi)
      (try clear ho0)
      refine hK.out _ _ ⟨((HB.out.cell (World.block_lt_of_cell? w _ hw270_0)).trans hw270_0), ((HB.out.cell (World.block_lt_of_cell? w _ hw270_1)).trans hw270_1), ((HB.out.cell (World.block_lt_of_cell? w _ hw270_2)).trans hw270_2), ((HB.out.cell (World.block_lt_of_cell? w _ hw270_3)).trans hw270_3), ((HB.out.cell (World.block_lt_of_cell? w _ hw271_0)).trans hw271_0), ((HB.out.cell (World.block_lt_of_cell? w _ hw271_1)).trans hw271_1), ((HB.out.cell (World.block_lt_of_cell? w _ hw271_2)).trans hw271_2), ((HB.out.cell (World.block_lt_of_cell? w _ hw271_3)).trans hw271_3)⟩ (fun hHeld => ?_)
      clear hK K
      refine norm_ (a' := ?_) ?_ ?_
      rotate_left
      ·show Act.put _ (some 28) _ = _
       simp only [Act.put, sA, sB, sC, i64_w, i32_w]
       rfl
      refine pure_ (i := 13) (N := some 3) (v := ?_) (a' := ?_) (ba 14 16383) rfl rfl (any_of HT_.out (by kernel_rfl)) (fun _ _ _ h => h) (Or.inl ⟨by rfl, ?_⟩) ?_ ?_
      rotate_left
      ·intro w'
       go_simp
       with_reducible rfl
      rotate_left
      ·simp only [Act.put, sA, sB, sC, i64_w, i32_w]
       rfl
      refine done_ (done_of HT_.out (by kernel_rfl)) ?_
      try go_wp2
      go_roundg k1
      case measure => have := HK1.out; omega
      case rel => exact ⟨(t276), (wrap64 (x4_1 + 1)), (by first | rfl | (simp; done) | (simp [*]; done)), H', ⟨by have := HK1.out; omega⟩, ⟨by (with_reducible repeat (first | apply rA | apply rN | apply rD)); exact rM HO278.out (fun _ hk => trivial)⟩, ⟨bl⟩⟩
     ·replace c5 := Bool.eq_false_iff.mpr c5
      subst c5
      have H1 : (mapmakerref20_Sort.l0 k1 l0 x3_1 (wrap64 (x4_1 + 1))) = some r := by rw [if_neg (show ¬ (false = true) by decide)] at H; exact H
      clear H
      have H := H1
      clear H1
      have H' := aM H
      clear H
      have p268 : 0 ≤ (x4_1 : Int) := of_decide_eq_true (by first | (with_reducible assumption) | assumption)
      have q268 : x4_1 < (l0.length : Int) := of_decide_eq_true (by first | (with_reducible assumption) | assumption)
      obtain ⟨ad268, e268, hx268_0, hx268_1, hx268_2, hx268_3⟩ := at_T35 HR0.out x4_1 p268 q268
      cases e268
      replace hx268_0 := (HB.out.cell (World.block_lt_of_cell? w _ hx268_0)).trans hx268_0
      replace hx268_1 := (HB.out.cell (World.block_lt_of_cell? w _ hx268_1)).trans hx268_1
      replace hx268_2 := (HB.out.cell (World.block_lt_of_cell? w _ hx268_2)).trans hx268_2
      replace hx268_3 := (HB.out.cell (World.block_lt_of_cell? w _ hx268_3)).trans hx268_3
      replace p268 := eq_true p268
      replace q268 := eq_true q268
      go_wp2_with (first | ((with_reducible refine gate_callee (f := 30) rfl ?_); refine goesL_ (some 15) rfl rfl Try.func30 (by kernel_rfl) rfl #[.agg #[.int .i64 ((rd_T35 l0 x4_1).f0.f0), .int .i64 ((rd_T35 l0 x4_1).f0.f1), .int .i64 ((rd_T35 l0 x4_1).f1.f0), .int .i64 ((rd_T35 l0 x4_1).f1.f1)]] rfl (by (try simp only [List.map_toArray, List.map_cons, List.map_nil]); first | done | rfl | (simp only [List.length_drop, List.length_take]; rfl)) ?_; (with_reducible refine (mapmakerref20_good.calls ((rd_T35 l0 x4_1).f0.f0) ((rd_T35 l0 x4_1).f0.f1) ((rd_T35 l0 x4_1).f1.f0) ((rd_T35 l0 x4_1).f1.f1) false _ A4.out).mono ?_); rintro e w13 ⟨rfl, hb⟩; refine ⟨_, rfl, ?_⟩; replace HO_3 := aM (rB (rl HO_3) hb); replace HB := aM (bS (bl) hb); (try clear hb); (try clear hb2); (try clear hk); (try clear hi)))
      go_roundg k1
      case measure => have := HK1.out; omega
      case rel => exact ⟨(x3_1), (wrap64 (x4_1 + 1)), (by first | rfl | (simp; done) | (simp [*]; done)), H', ⟨by have := HK1.out; omega⟩, ⟨by (with_reducible repeat (first | apply rA | apply rN | apply rD)); exact HO_3.out⟩, ⟨bl⟩⟩
    ·rw [if_neg c3] at H
     exact absurd H (by simp)
   ·rw [if_neg c2] at H
    have c2b0 : decide (x4_1 < (l0.length : Int)) = false := decide_eq_false c2
    clear c2
    obtain rfl := Option.some.inj H
    go_wp2
    go_ret
    exact ⟨_, by first | rfl | (simp [errW_none, errW_some] <;> rfl) | (simp [*, errW_none, errW_some] <;> rfl), by (with_reducible repeat (first | apply rA | apply rN | apply rD)); exact HO_3.out, bl⟩
def mapmakerref20_Unique.l0 : Nat → List (S35) → List (S35) → Int → Option ((List (S35)))
 | 0, _, _, _ => none
 | k + 1, x3, x4, x5 => if x5 < (x3.length : Int) then (if x5 = 0 then (if 0 ≤ x5 then (if x4.length < 4398046511104 then (mapmakerref20_Unique.l0 k x3 (x4 ++ [(⟨(⟨(rd_T35 x3 x5).f0.f0, (rd_T35 x3 x5).f0.f1⟩ : S33), (⟨(rd_T35 x3 x5).f1.f0, (rd_T35 x3 x5).f1.f1⟩ : S33)⟩ : S35)]) (wrap64 (x5 + 1))) else (none)) else (none)) else (if 0 ≤ x5 then (if 0 ≤ (wrap64 (x5 - 1)) then (if (wrap64 (x5 - 1)) < (x3.length : Int) then (if ((!(((rd_T35 x3 x5).f0.f0) == ((rd_T35 x3 (wrap64 (x5 - 1))).f0.f0)) || (!(((rd_T35 x3 x5).f0.f1) == ((rd_T35 x3 (wrap64 (x5 - 1))).f0.f1)))) || ((!(((rd_T35 x3 x5).f1.f0) == ((rd_T35 x3 (wrap64 (x5 - 1))).f1.f0)) || (!(((rd_T35 x3 x5).f1.f1) == ((rd_T35 x3 (wrap64 (x5 - 1))).f1.f1)))))) = true then (if x4.length < 4398046511104 then (mapmakerref20_Unique.l0 k x3 (x4 ++ [(⟨(⟨(rd_T35 x3 x5).f0.f0, (rd_T35 x3 x5).f0.f1⟩ : S33), (⟨(rd_T35 x3 x5).f1.f0, (rd_T35 x3 x5).f1.f1⟩ : S33)⟩ : S35)]) (wrap64 (x5 + 1))) else (none)) else (mapmakerref20_Unique.l0 k x3 x4 (wrap64 (x5 + 1)))) else (none)) else (none)) else (none))) else (some x4)
def mapmakerref20_Unique.f (k : Nat) (l0 : List (S35)) : Option ((List (S35))) := (mapmakerref20_Sort.f k l0).bind fun t279 => (mapmakerref20_Unique.l0 k t279 ([] : List (S35)) 0)
theorem mapmakerref20_Unique.mono_l : ∀ k, (∀ y0 y1 y2, LeO (mapmakerref20_Unique.l0 k y0 y1 y2) (mapmakerref20_Unique.l0 (k + 1) y0 y1 y2))
 | 0 => fun _ _ _ r h => by simp [mapmakerref20_Unique.l0] at h
 | k + 1 => by
  have ih0 := mapmakerref20_Unique.mono_l k
  ·intro y0 y1 y2
   unfold mapmakerref20_Unique.l0
   repeat' first
   | (with_reducible exact ih0 _ _ _)
   | (with_reducible exact mapmakerref20_Sort.mono _ _)
   | (with_reducible exact LeO.refl _)
   | (with_reducible exact LeO.none _)
   | (with_reducible refine LeO.ite ?_ ?_)
   | (with_reducible refine LeO.bind ?_ (fun _ => ?_))
   | exact ih0 _ _ _
   | exact mapmakerref20_Sort.mono _ _
   | exact LeO.none _
   | refine LeO.ite ?_ ?_
   | refine LeO.bind ?_ (fun _ => ?_)
theorem mapmakerref20_Unique.mono : ∀ a0 k, LeO (mapmakerref20_Unique.f k a0) (mapmakerref20_Unique.f (k + 1) a0) := by
 intro a0 k
 have ih0 := mapmakerref20_Unique.mono_l k
 unfold mapmakerref20_Unique.f
 repeat' first
   | (with_reducible exact ih0 _ _ _)
   | (with_reducible exact mapmakerref20_Sort.mono _ _)
   | (with_reducible exact LeO.refl _)
   | (with_reducible exact LeO.none _)
   | (with_reducible refine LeO.ite ?_ ?_)
   | (with_reducible refine LeO.bind ?_ (fun _ => ?_))
   | exact ih0 _ _ _
   | exact mapmakerref20_Sort.mono _ _
   | exact LeO.none _
   | refine LeO.ite ?_ ?_
   | refine LeO.bind ?_ (fun _ => ?_)
set_option maxHeartbeats 8000000 in
set_option maxRecDepth 100000 in
theorem mapmakerref20_Unique.calls (k : Nat) (A0 : Option Addr) (c0 : Nat) (l0 : List (S35)) (r : List (S35)) (w : World) (hr0 : Kd.C k35 w A0 l0.length l0) (hc0 : l0.length ≤ c0) (h : mapmakerref20_Unique.f k l0 = some r) :
  Calls Try.prog 16 #[.slice A0 l0.length c0] w fun e w' => ∃ v0_ : Value, e = .returned (v0_) ∧ Kd.R k35 35 w' w.heap.size (fun _ => True) v0_ r ∧ Below w.heap.size w w' := by
 have hu35 := Try.underlying35
 have HR0 := aM hr0
 have HC0 := aM hc0
 clear hr0 hc0
 have HB := aM (Below.refl w.heap.size w)
 have H : ((mapmakerref20_Sort.f k l0).bind fun t279 => (mapmakerref20_Unique.l0 k t279 ([] : List (S35)) 0)) = some r := h
 clear h
 replace H := Option.bind_eq_some_iff.mp H
 obtain ⟨t279, A20, H⟩ := H
 try dsimp only at H
 have A2 := aM A20
 clear A20
 have H' := aM H
 clear H
 go_enter Try.func16, Try.ntmps16
 go_wp2_with (first | (go_at_call 14; (with_reducible refine (mapmakerref20_Sort.calls k _ _ l0 t279 _ ?side1 ?side2 A2.out).mono ?_); (case side1 => repeat (first | exact HR0.out | (with_reducible refine cA ?_ _) | (with_reducible refine cN ?_ _) | (with_reducible refine cD ?_))); (case side2 => exact HC0.out); rintro e w3 ⟨v280, rfl, ho0, hb⟩; have HO281 := aM (Kd.R_lower ho0 (below_size (bl))); replace HB := aM (bS (bl) hb); (try clear hb); (try clear hb2); (try clear hk); (try clear hi); (try clear ho0)))
 repeat (go_quiet (first | (go_at_call 14; (with_reducible refine (mapmakerref20_Sort.calls k _ _ l0 t279 _ ?side1 ?side2 A2.out).mono ?_); (case side1 => repeat (first | exact HR0.out | (with_reducible refine cA ?_ _) | (with_reducible refine cN ?_ _) | (with_reducible refine cD ?_))); (case side2 => exact HC0.out); rintro e w3 ⟨v280, rfl, ho0, hb⟩; have HO281 := aM (Kd.R_lower ho0 (below_size (bl))); replace HB := aM (bS (bl) hb); (try clear hb); (try clear hb2); (try clear hk); (try clear hi); (try clear ho0))); try go_wp2_with (first | (go_at_call 14; (with_reducible refine (mapmakerref20_Sort.calls k _ _ l0 t279 _ ?side1 ?side2 A2.out).mono ?_); (case side1 => repeat (first | exact HR0.out | (with_reducible refine cA ?_ _) | (with_reducible refine cN ?_ _) | (with_reducible refine cD ?_))); (case side2 => exact HC0.out); rintro e w3 ⟨v280, rfl, ho0, hb⟩; have HO281 := aM (Kd.R_lower ho0 (below_size (bl))); replace HB := aM (bS (bl) hb); (try clear hb); (try clear hb2); (try clear hk); (try clear hi); (try clear ho0))))
 go_loopg [4, 5] k (fun kq v4 v5 w' => ∃ (x4_1 : List (S35)) (x5_1 : Int), v5 = .int .i64 x5_1 ∧ Aside0 (mapmakerref20_Unique.l0 kq t279 x4_1 x5_1 = some r) ∧ Aside0 (kq ≤ k) ∧ Aside0 (Kd.R k35 35 w' w.heap.size (fun k_ => some k_ ≠ (v4 : Value).ownBlock) v280 t279) ∧ Aside0 (Kd.R k35 35 w' w.heap.size (fun k_ => some k_ ≠ (v280 : Value).ownBlock) v4 x4_1) ∧ Aside0 (Below w.heap.size w w'))
 case atStart => exact ⟨(([] : List (S35))), (0), (by first | rfl | (simp; done) | (simp [*]; done)), H', ⟨Nat.le_refl _⟩, ⟨by (with_reducible repeat (first | apply rA | apply rN | apply rD)); exact rM HO281.out (fun _ hk => (by simp [Value.ownBlock]))⟩, ⟨by first | exact Kd.R_nil _ _ _ _ _ | exact Kd.N_nil _ _ _ _ _ | exact Kd.V_nil _ _ _ _ _ | exact Kd.Q_nil _ _ _ _ _ | exact Kd.S_nil _ _ _ _ _⟩, ⟨bl⟩⟩
 case round =>
  clear H'
  try clear c1
  try clear p2
  obtain ⟨x4_1, x5_1, rfl, HA, HK1, HO_3, HO_4, HB⟩ := hrel
  cases gk with
  | zero => exact absurd HA.out (by simp [mapmakerref20_Unique.l0])
  | succ k1 =>
   have H := HA.out
   clear HA
   simp only [mapmakerref20_Unique.l0] at H
   by_cases c4 : x5_1 < (t279.length : Int)
   ·rw [if_pos c4] at H
    have c4b0 : decide (x5_1 < (t279.length : Int)) = true := decide_eq_true c4
    clear c4
    by_cases c5 : x5_1 = 0
    ·rw [if_pos c5] at H
     have c5b0 : (x5_1 == 0) = true := beq_iff_eq.mpr c5
     have c5b1 : (x5_1 != 0) = false := bne_eq_false_iff_eq.mpr c5
     clear c5
     by_cases c6 : 0 ≤ x5_1
     ·rw [if_pos c6] at H
      have c6b0 : decide (0 ≤ x5_1) = true := decide_eq_true c6
      clear c6
      by_cases c7 : x4_1.length < 4398046511104
      ·rw [if_pos c7] at H
       have LMc7 := aM c7
       clear c7
       obtain ⟨y283, hy283⟩ : ∃ y_ : List (S35), y_ = (x4_1 ++ [(⟨(⟨(rd_T35 t279 x5_1).f0.f0, (rd_T35 t279 x5_1).f0.f1⟩ : S33), (⟨(rd_T35 t279 x5_1).f1.f0, (rd_T35 t279 x5_1).f1.f1⟩ : S33)⟩ : S35)]) := ⟨_, rfl⟩
       replace H : (mapmakerref20_Unique.l0 k1 t279 y283 (wrap64 (x5_1 + 1))) = some r := by first | (rw [hy283]; with_reducible exact H) | (have H2_ := (Option.bind_some _ _).symm.trans H; rw [hy283]; with_reducible exact H2_) | (have H2_ := (Option.bind_some _ _).symm.trans H; with_reducible exact H2_) | with_reducible exact H | (rw [hy283]; exact H) | exact H
       have Ny283 := aM hy283
       clear hy283
       have H' := aM H
       clear H
       obtain ⟨Ao8, co8, eo8⟩ := Kd.R_slice HO_3.out
       subst eo8
       have p282 : 0 ≤ (x5_1 : Int) := of_decide_eq_true (by first | (with_reducible assumption) | assumption)
       have q282 : x5_1 < (t279.length : Int) := of_decide_eq_true (by first | (with_reducible assumption) | assumption)
       obtain ⟨ad282, e282, hx282_0, hx282_1, hx282_2, hx282_3⟩ := at_T35 (rR HO_3.out).2.2 x5_1 p282 q282
       cases e282
       replace p282 := eq_true p282
       replace q282 := eq_true q282
       go_wp2_with (first | ((with_reducible refine gate_builtin (b := .append) (xs := #[.tmp 28, .tmp 33]) rfl ?_); at_builtin; refine Kd.R_append k35 (w0 := w) w.heap.size rfl (.tmp 28) (.tmp 33) 23 35 (.agg #[(.int .i64 0), (.int .i64 0), (.int .i64 0), (.int .i64 0)]) 32 rfl Try.underlying23 info35 rfl (by decide) (by omega) u4 x4_1 (⟨(⟨(rd_T35 t279 x5_1).f0.f0, (rd_T35 t279 x5_1).f0.f1⟩ : S33), (⟨(rd_T35 t279 x5_1).f1.f0, (rd_T35 t279 x5_1).f1.f1⟩ : S33)⟩ : S35) [.int .i64 ((rd_T35 t279 x5_1).f0.f0), .int .i64 ((rd_T35 t279 x5_1).f0.f1), .int .i64 ((rd_T35 t279 x5_1).f1.f0), .int .i64 ((rd_T35 t279 x5_1).f1.f1)] (fun k_ => some k_ ≠ (.slice (some ad282) t279.length co8 : Value).ownBlock) (fun _ => False) rfl rfl ?aP (fun _ hk => hk.elim) ?aF ?aO ?aB ?aS ?aL ?_; (case aP => exact k35_mkM _ _ _ (⟨(⟨(rd_T35 t279 x5_1).f0.f0, (rd_T35 t279 x5_1).f0.f1⟩ : S33), (⟨(rd_T35 t279 x5_1).f1.f0, (rd_T35 t279 x5_1).f1.f1⟩ : S33)⟩ : S35)); (case aB => exact (bl)); (case aF => exact (fun k_ hk => Kd.fresh' (Kd.R_lt (rl HO_3)) k_ hk)); (case aO => exact (rl HO_4)); (case aS => exact (below_size (bl))); (case aL => have := LMc7.out; omega); intro v284 w9 ho hb hg hat; rw [← Ny283.out] at ho; have n0_ := aM (Kd.R_after (ok := (fun _ => True)) (by (with_reducible repeat (first | apply rA | apply rN | apply rD)); exact rM HO_3.out (fun _ hk => ⟨trivial, hk⟩)) hg hat); have n1_ := aM (hb); have n2_ := aM (ho); clear HO_3 HB HO_4; have HO_3 := n0_; have HB := n1_; have HO285 := n2_; clear n0_ n1_ n2_ ho hb hg hat))
       repeat (go_quiet (first | ((with_reducible refine gate_builtin (b := .append) (xs := #[.tmp 28, .tmp 33]) rfl ?_); at_builtin; refine Kd.R_append k35 (w0 := w) w.heap.size rfl (.tmp 28) (.tmp 33) 23 35 (.agg #[(.int .i64 0), (.int .i64 0), (.int .i64 0), (.int .i64 0)]) 32 rfl Try.underlying23 info35 rfl (by decide) (by omega) u4 x4_1 (⟨(⟨(rd_T35 t279 x5_1).f0.f0, (rd_T35 t279 x5_1).f0.f1⟩ : S33), (⟨(rd_T35 t279 x5_1).f1.f0, (rd_T35 t279 x5_1).f1.f1⟩ : S33)⟩ : S35) [.int .i64 ((rd_T35 t279 x5_1).f0.f0), .int .i64 ((rd_T35 t279 x5_1).f0.f1), .int .i64 ((rd_T35 t279 x5_1).f1.f0), .int .i64 ((rd_T35 t279 x5_1).f1.f1)] (fun k_ => some k_ ≠ (.slice (some ad282) t279.length co8 : Value).ownBlock) (fun _ => False) rfl rfl ?aP (fun _ hk => hk.elim) ?aF ?aO ?aB ?aS ?aL ?_; (case aP => exact k35_mkM _ _ _ (⟨(⟨(rd_T35 t279 x5_1).f0.f0, (rd_T35 t279 x5_1).f0.f1⟩ : S33), (⟨(rd_T35 t279 x5_1).f1.f0, (rd_T35 t279 x5_1).f1.f1⟩ : S33)⟩ : S35)); (case aB => exact (bl)); (case aF => exact (fun k_ hk => Kd.fresh' (Kd.R_lt (rl HO_3)) k_ hk)); (case aO => exact (rl HO_4)); (case aS => exact (below_size (bl))); (case aL => have := LMc7.out; omega); intro v284 w9 ho hb hg hat; rw [← Ny283.out] at ho; have n0_ := aM (Kd.R_after (ok := (fun _ => True)) (by (with_reducible repeat (first | apply rA | apply rN | apply rD)); exact rM HO_3.out (fun _ hk => ⟨trivial, hk⟩)) hg hat); have n1_ := aM (hb); have n2_ := aM (ho); clear HO_3 HB HO_4; have HO_3 := n0_; have HB := n1_; have HO285 := n2_; clear n0_ n1_ n2_ ho hb hg hat)); try go_wp2_with (first | ((with_reducible refine gate_builtin (b := .append) (xs := #[.tmp 28, .tmp 33]) rfl ?_); at_builtin; refine Kd.R_append k35 (w0 := w) w.heap.size rfl (.tmp 28) (.tmp 33) 23 35 (.agg #[(.int .i64 0), (.int .i64 0), (.int .i64 0), (.int .i64 0)]) 32 rfl Try.underlying23 info35 rfl (by decide) (by omega) u4 x4_1 (⟨(⟨(rd_T35 t279 x5_1).f0.f0, (rd_T35 t279 x5_1).f0.f1⟩ : S33), (⟨(rd_T35 t279 x5_1).f1.f0, (rd_T35 t279 x5_1).f1.f1⟩ : S33)⟩ : S35) [.int .i64 ((rd_T35 t279 x5_1).f0.f0), .int .i64 ((rd_T35 t279 x5_1).f0.f1), .int .i64 ((rd_T35 t279 x5_1).f1.f0), .int .i64 ((rd_T35 t279 x5_1).f1.f1)] (fun k_ => some k_ ≠ (.slice (some ad282) t279.length co8 : Value).ownBlock) (fun _ => False) rfl rfl ?aP (fun _ hk => hk.elim) ?aF ?aO ?aB ?aS ?aL ?_; (case aP => exact k35_mkM _ _ _ (⟨(⟨(rd_T35 t279 x5_1).f0.f0, (rd_T35 t279 x5_1).f0.f1⟩ : S33), (⟨(rd_T35 t279 x5_1).f1.f0, (rd_T35 t279 x5_1).f1.f1⟩ : S33)⟩ : S35)); (case aB => exact (bl)); (case aF => exact (fun k_ hk => Kd.fresh' (Kd.R_lt (rl HO_3)) k_ hk)); (case aO => exact (rl HO_4)); (case aS => exact (below_size (bl))); (case aL => have := LMc7.out; omega); intro v284 w9 ho hb hg hat; rw [← Ny283.out] at ho; have n0_ := aM (Kd.R_after (ok := (fun _ => True)) (by (with_reducible repeat (first | apply rA | apply rN | apply rD)); exact rM HO_3.out (fun _ hk => ⟨trivial, hk⟩)) hg hat); have n1_ := aM (hb); have n2_ := aM (ho); clear HO_3 HB HO_4; have HO_3 := n0_; have HB := n1_; have HO285 := n2_; clear n0_ n1_ n2_ ho hb hg hat)))
       go_roundg k1
       case measure => have := HK1.out; omega
       case rel => exact ⟨(y283), (wrap64 (x5_1 + 1)), (by first | rfl | (simp; done) | (simp [*]; done)), H', ⟨by have := HK1.out; omega⟩, ⟨by (with_reducible repeat (first | apply rA | apply rN | apply rD)); exact rM HO_3.out (fun _ hk => hk.2)⟩, ⟨by (with_reducible repeat (first | apply rA | apply rN | apply rD)); exact HO285.out⟩, ⟨bl⟩⟩
      ·rw [if_neg c7] at H
       exact absurd H (by simp)
     ·rw [if_neg c6] at H
      exact absurd H (by simp)
    ·rw [if_neg c5] at H
     have c5b0 : (x5_1 == 0) = false := beq_eq_false_iff_ne.mpr c5
     have c5b1 : (x5_1 != 0) = true := bne_iff_ne.mpr c5
     by_cases c10 : 0 ≤ x5_1
     ·rw [if_pos c10] at H
      have c10b0 : decide (0 ≤ x5_1) = true := decide_eq_true c10
      clear c10
      obtain ⟨ji11, hji11⟩ : ∃ j_ : Int, (wrap64 (x5_1 - 1)) = j_ := ⟨_, rfl⟩
      replace H : (if 0 ≤ (ji11) then (if (ji11) < (t279.length : Int) then (if ((!(((rd_T35 t279 x5_1).f0.f0) == ((rd_T35 t279 (ji11)).f0.f0)) || (!(((rd_T35 t279 x5_1).f0.f1) == ((rd_T35 t279 (ji11)).f0.f1)))) || ((!(((rd_T35 t279 x5_1).f1.f0) == ((rd_T35 t279 (ji11)).f1.f0)) || (!(((rd_T35 t279 x5_1).f1.f1) == ((rd_T35 t279 (ji11)).f1.f1)))))) = true then (if x4_1.length < 4398046511104 then (mapmakerref20_Unique.l0 k1 t279 (x4_1 ++ [(⟨(⟨(rd_T35 t279 x5_1).f0.f0, (rd_T35 t279 x5_1).f0.f1⟩ : S33), (⟨(rd_T35 t279 x5_1).f1.f0, (rd_T35 t279 x5_1).f1.f1⟩ : S33)⟩ : S35)]) (wrap64 (x5_1 + 1))) else (none)) else (mapmakerref20_Unique.l0 k1 t279 x4_1 (wrap64 (x5_1 + 1)))) else (none)) else (none)) = some r := by first | (rw [hji11] at H; exact H) | (simp only [hji11] at H ⊢; exact H)
      have hji11w : (IntKind.i64.wrap (x5_1 - 1)) = ji11 := (i64_w _).trans hji11
      by_cases c12 : 0 ≤ (ji11)
      ·rw [if_pos c12] at H
       have c12b0 : decide (0 ≤ (ji11)) = true := decide_eq_true c12
       clear c12
       by_cases c13 : (ji11) < (t279.length : Int)
       ·rw [if_pos c13] at H
        have c13b0 : decide ((ji11) < (t279.length : Int)) = true := decide_eq_true c13
        clear c13
        by_cases c14 : ((!(((rd_T35 t279 x5_1).f0.f0) == ((rd_T35 t279 (ji11)).f0.f0)) || (!(((rd_T35 t279 x5_1).f0.f1) == ((rd_T35 t279 (ji11)).f0.f1)))) || ((!(((rd_T35 t279 x5_1).f1.f0) == ((rd_T35 t279 (ji11)).f1.f0)) || (!(((rd_T35 t279 x5_1).f1.f1) == ((rd_T35 t279 (ji11)).f1.f1)))))) = true
        ·rw [if_pos c14] at H
         have c14b0 : ((!(((rd_T35 t279 x5_1).f0.f0) == ((rd_T35 t279 (ji11)).f0.f0)) || (!(((rd_T35 t279 x5_1).f0.f1) == ((rd_T35 t279 (ji11)).f0.f1)))) || ((!(((rd_T35 t279 x5_1).f1.f0) == ((rd_T35 t279 (ji11)).f1.f0)) || (!(((rd_T35 t279 x5_1).f1.f1) == ((rd_T35 t279 (ji11)).f1.f1)))))) = true := c14
         clear c14
         by_cases c15 : x4_1.length < 4398046511104
         ·rw [if_pos c15] at H
          have LMc15 := aM c15
          clear c15
          obtain ⟨y289, hy289⟩ : ∃ y_ : List (S35), y_ = (x4_1 ++ [(⟨(⟨(rd_T35 t279 x5_1).f0.f0, (rd_T35 t279 x5_1).f0.f1⟩ : S33), (⟨(rd_T35 t279 x5_1).f1.f0, (rd_T35 t279 x5_1).f1.f1⟩ : S33)⟩ : S35)]) := ⟨_, rfl⟩
          replace H : (mapmakerref20_Unique.l0 k1 t279 y289 (wrap64 (x5_1 + 1))) = some r := by first | (rw [hy289]; with_reducible exact H) | (have H2_ := (Option.bind_some _ _).symm.trans H; rw [hy289]; with_reducible exact H2_) | (have H2_ := (Option.bind_some _ _).symm.trans H; with_reducible exact H2_) | with_reducible exact H | (rw [hy289]; exact H) | exact H
          have Ny289 := aM hy289
          clear hy289
          have H' := aM H
          clear H
          obtain ⟨Ao16, co16, eo16⟩ := Kd.R_slice HO_3.out
          subst eo16
          have p286 : 0 ≤ (x5_1 : Int) := of_decide_eq_true (by first | (with_reducible assumption) | assumption)
          have q286 : x5_1 < (t279.length : Int) := of_decide_eq_true (by first | (with_reducible assumption) | assumption)
          obtain ⟨ad286, e286, hx286_0, hx286_1, hx286_2, hx286_3⟩ := at_T35 (rR HO_3.out).2.2 x5_1 p286 q286
          cases e286
          replace p286 := eq_true p286
          replace q286 := eq_true q286
          have p287 : 0 ≤ ((ji11) : Int) := of_decide_eq_true (by first | (with_reducible assumption) | assumption)
          have q287 : (ji11) < (t279.length : Int) := of_decide_eq_true (by first | (with_reducible assumption) | assumption)
          obtain ⟨ad287, e287, hx287_0, hx287_1, hx287_2, hx287_3⟩ := at_T35 (rR HO_3.out).2.2 (ji11) p287 q287
          obtain rfl : ad286 = ad287 := (by injection e287)
          replace p287 := eq_true p287
          replace q287 := eq_true q287
          have p288 : 0 ≤ (x5_1 : Int) := of_decide_eq_true (by first | (with_reducible assumption) | assumption)
          have q288 : x5_1 < (t279.length : Int) := of_decide_eq_true (by first | (with_reducible assumption) | assumption)
          obtain ⟨ad288, e288, hx288_0, hx288_1, hx288_2, hx288_3⟩ := at_T35 (rR HO_3.out).2.2 x5_1 p288 q288
          obtain rfl : ad286 = ad288 := (by injection e288)
          replace p288 := eq_true p288
          replace q288 := eq_true q288
          go_wp2_with (first | ((with_reducible refine gate_builtin (b := .append) (xs := #[.tmp 28, .tmp 33]) rfl ?_); at_builtin; refine Kd.R_append k35 (w0 := w) w.heap.size rfl (.tmp 28) (.tmp 33) 23 35 (.agg #[(.int .i64 0), (.int .i64 0), (.int .i64 0), (.int .i64 0)]) 32 rfl Try.underlying23 info35 rfl (by decide) (by omega) u4 x4_1 (⟨(⟨(rd_T35 t279 x5_1).f0.f0, (rd_T35 t279 x5_1).f0.f1⟩ : S33), (⟨(rd_T35 t279 x5_1).f1.f0, (rd_T35 t279 x5_1).f1.f1⟩ : S33)⟩ : S35) [.int .i64 ((rd_T35 t279 x5_1).f0.f0), .int .i64 ((rd_T35 t279 x5_1).f0.f1), .int .i64 ((rd_T35 t279 x5_1).f1.f0), .int .i64 ((rd_T35 t279 x5_1).f1.f1)] (fun k_ => some k_ ≠ (.slice (some ad286) t279.length co16 : Value).ownBlock) (fun _ => False) rfl rfl ?aP (fun _ hk => hk.elim) ?aF ?aO ?aB ?aS ?aL ?_; (case aP => exact k35_mkM _ _ _ (⟨(⟨(rd_T35 t279 x5_1).f0.f0, (rd_T35 t279 x5_1).f0.f1⟩ : S33), (⟨(rd_T35 t279 x5_1).f1.f0, (rd_T35 t279 x5_1).f1.f1⟩ : S33)⟩ : S35)); (case aB => exact (bl)); (case aF => exact (fun k_ hk => Kd.fresh' (Kd.R_lt (rl HO_3)) k_ hk)); (case aO => exact (rl HO_4)); (case aS => exact (below_size (bl))); (case aL => have := LMc15.out; omega); intro v290 w17 ho hb hg hat; rw [← Ny289.out] at ho; have n0_ := aM (Kd.R_after (ok := (fun _ => True)) (by (with_reducible repeat (first | apply rA | apply rN | apply rD)); exact rM HO_3.out (fun _ hk => ⟨trivial, hk⟩)) hg hat); have n1_ := aM (hb); have n2_ := aM (ho); clear HO_3 HB HO_4; have HO_3 := n0_; have HB := n1_; have HO291 := n2_; clear n0_ n1_ n2_ ho hb hg hat))
          repeat (go_quiet (first | ((with_reducible refine gate_builtin (b := .append) (xs := #[.tmp 28, .tmp 33]) rfl ?_); at_builtin; refine Kd.R_append k35 (w0 := w) w.heap.size rfl (.tmp 28) (.tmp 33) 23 35 (.agg #[(.int .i64 0), (.int .i64 0), (.int .i64 0), (.int .i64 0)]) 32 rfl Try.underlying23 info35 rfl (by decide) (by omega) u4 x4_1 (⟨(⟨(rd_T35 t279 x5_1).f0.f0, (rd_T35 t279 x5_1).f0.f1⟩ : S33), (⟨(rd_T35 t279 x5_1).f1.f0, (rd_T35 t279 x5_1).f1.f1⟩ : S33)⟩ : S35) [.int .i64 ((rd_T35 t279 x5_1).f0.f0), .int .i64 ((rd_T35 t279 x5_1).f0.f1), .int .i64 ((rd_T35 t279 x5_1).f1.f0), .int .i64 ((rd_T35 t279 x5_1).f1.f1)] (fun k_ => some k_ ≠ (.slice (some ad286) t279.length co16 : Value).ownBlock) (fun _ => False) rfl rfl ?aP (fun _ hk => hk.elim) ?aF ?aO ?aB ?aS ?aL ?_; (case aP => exact k35_mkM _ _ _ (⟨(⟨(rd_T35 t279 x5_1).f0.f0, (rd_T35 t279 x5_1).f0.f1⟩ : S33), (⟨(rd_T35 t279 x5_1).f1.f0, (rd_T35 t279 x5_1).f1.f1⟩ : S33)⟩ : S35)); (case aB => exact (bl)); (case aF => exact (fun k_ hk => Kd.fresh' (Kd.R_lt (rl HO_3)) k_ hk)); (case aO => exact (rl HO_4)); (case aS => exact (below_size (bl))); (case aL => have := LMc15.out; omega); intro v290 w17 ho hb hg hat; rw [← Ny289.out] at ho; have n0_ := aM (Kd.R_after (ok := (fun _ => True)) (by (with_reducible repeat (first | apply rA | apply rN | apply rD)); exact rM HO_3.out (fun _ hk => ⟨trivial, hk⟩)) hg hat); have n1_ := aM (hb); have n2_ := aM (ho); clear HO_3 HB HO_4; have HO_3 := n0_; have HB := n1_; have HO291 := n2_; clear n0_ n1_ n2_ ho hb hg hat)); try go_wp2_with (first | ((with_reducible refine gate_builtin (b := .append) (xs := #[.tmp 28, .tmp 33]) rfl ?_); at_builtin; refine Kd.R_append k35 (w0 := w) w.heap.size rfl (.tmp 28) (.tmp 33) 23 35 (.agg #[(.int .i64 0), (.int .i64 0), (.int .i64 0), (.int .i64 0)]) 32 rfl Try.underlying23 info35 rfl (by decide) (by omega) u4 x4_1 (⟨(⟨(rd_T35 t279 x5_1).f0.f0, (rd_T35 t279 x5_1).f0.f1⟩ : S33), (⟨(rd_T35 t279 x5_1).f1.f0, (rd_T35 t279 x5_1).f1.f1⟩ : S33)⟩ : S35) [.int .i64 ((rd_T35 t279 x5_1).f0.f0), .int .i64 ((rd_T35 t279 x5_1).f0.f1), .int .i64 ((rd_T35 t279 x5_1).f1.f0), .int .i64 ((rd_T35 t279 x5_1).f1.f1)] (fun k_ => some k_ ≠ (.slice (some ad286) t279.length co16 : Value).ownBlock) (fun _ => False) rfl rfl ?aP (fun _ hk => hk.elim) ?aF ?aO ?aB ?aS ?aL ?_; (case aP => exact k35_mkM _ _ _ (⟨(⟨(rd_T35 t279 x5_1).f0.f0, (rd_T35 t279 x5_1).f0.f1⟩ : S33), (⟨(rd_T35 t279 x5_1).f1.f0, (rd_T35 t279 x5_1).f1.f1⟩ : S33)⟩ : S35)); (case aB => exact (bl)); (case aF => exact (fun k_ hk => Kd.fresh' (Kd.R_lt (rl HO_3)) k_ hk)); (case aO => exact (rl HO_4)); (case aS => exact (below_size (bl))); (case aL => have := LMc15.out; omega); intro v290 w17 ho hb hg hat; rw [← Ny289.out] at ho; have n0_ := aM (Kd.R_after (ok := (fun _ => True)) (by (with_reducible repeat (first | apply rA | apply rN | apply rD)); exact rM HO_3.out (fun _ hk => ⟨trivial, hk⟩)) hg hat); have n1_ := aM (hb); have n2_ := aM (ho); clear HO_3 HB HO_4; have HO_3 := n0_; have HB := n1_; have HO291 := n2_; clear n0_ n1_ n2_ ho hb hg hat)))
          go_roundg k1
          case measure => have := HK1.out; omega
          case rel => exact ⟨(y289), (wrap64 (x5_1 + 1)), (by first | rfl | (simp; done) | (simp [*]; done)), H', ⟨by have := HK1.out; omega⟩, ⟨by (with_reducible repeat (first | apply rA | apply rN | apply rD)); exact rM HO_3.out (fun _ hk => hk.2)⟩, ⟨by (with_reducible repeat (first | apply rA | apply rN | apply rD)); exact HO291.out⟩, ⟨bl⟩⟩
         ·rw [if_neg c15] at H
          exact absurd H (by simp)
        ·rw [if_neg c14] at H
         have c14b0 : ((!(((rd_T35 t279 x5_1).f0.f0) == ((rd_T35 t279 (ji11)).f0.f0)) || (!(((rd_T35 t279 x5_1).f0.f1) == ((rd_T35 t279 (ji11)).f0.f1)))) || ((!(((rd_T35 t279 x5_1).f1.f0) == ((rd_T35 t279 (ji11)).f1.f0)) || (!(((rd_T35 t279 x5_1).f1.f1) == ((rd_T35 t279 (ji11)).f1.f1)))))) = false := by simpa using c14
         clear c14
         have H' := aM H
         clear H
         obtain ⟨Ao18, co18, eo18⟩ := Kd.R_slice HO_3.out
         subst eo18
         have p286 : 0 ≤ (x5_1 : Int) := of_decide_eq_true (by first | (with_reducible assumption) | assumption)
         have q286 : x5_1 < (t279.length : Int) := of_decide_eq_true (by first | (with_reducible assumption) | assumption)
         obtain ⟨ad286, e286, hx286_0, hx286_1, hx286_2, hx286_3⟩ := at_T35 (rR HO_3.out).2.2 x5_1 p286 q286
         cases e286
         replace p286 := eq_true p286
         replace q286 := eq_true q286
         have p287 : 0 ≤ ((ji11) : Int) := of_decide_eq_true (by first | (with_reducible assumption) | assumption)
         have q287 : (ji11) < (t279.length : Int) := of_decide_eq_true (by first | (with_reducible assumption) | assumption)
         obtain ⟨ad287, e287, hx287_0, hx287_1, hx287_2, hx287_3⟩ := at_T35 (rR HO_3.out).2.2 (ji11) p287 q287
         obtain rfl : ad286 = ad287 := (by injection e287)
         replace p287 := eq_true p287
         replace q287 := eq_true q287
         go_wp2
         repeat (go_quiet (fail); try go_wp2)
         go_roundg k1
         case measure => have := HK1.out; omega
         case rel => exact ⟨(x4_1), (wrap64 (x5_1 + 1)), (by first | rfl | (simp; done) | (simp [*]; done)), H', ⟨by have := HK1.out; omega⟩, ⟨by (with_reducible repeat (first | apply rA | apply rN | apply rD)); exact HO_3.out⟩, ⟨by (with_reducible repeat (first | apply rA | apply rN | apply rD)); exact HO_4.out⟩, ⟨bl⟩⟩
       ·rw [if_neg c13] at H
        exact absurd H (by simp)
      ·rw [if_neg c12] at H
       exact absurd H (by simp)
     ·rw [if_neg c10] at H
      exact absurd H (by simp)
   ·rw [if_neg c4] at H
    have c4b0 : decide (x5_1 < (t279.length : Int)) = false := decide_eq_false c4
    clear c4
    obtain rfl := Option.some.inj H
    obtain ⟨Ao19, co19, eo19⟩ := Kd.R_slice HO_3.out
    subst eo19
    go_wp2
    repeat (go_quiet (fail); try go_wp2)
    go_ret
    exact ⟨_, by first | rfl | (simp [errW_none, errW_some] <;> rfl) | (simp [*, errW_none, errW_some] <;> rfl), by (with_reducible repeat (first | apply rA | apply rN | apply rD)); exact rM HO_4.out (fun _ hk => trivial), bl⟩
def mapmakerref09_three.f (a0_0 : Int) (a0_1 : Int) (a1_0 : Int) (a1_1 : Int) (a2_0 : Int) (a2_1 : Int) : Option (Bool) := (mapmakerref08_Valid.f a0_0 a0_1).bind fun t295 => (if t295 = true then ((mapmakerref08_Valid.f a1_0 a1_1).bind fun t296 => (if t296 = true then ((mapmakerref08_Valid.f a2_0 a2_1).bind fun t297 => (some t297)) else (some false))) else (some false))
set_option maxHeartbeats 8000000 in
set_option maxRecDepth 100000 in
theorem mapmakerref09_three.calls (a0_0 : Int) (a0_1 : Int) (a1_0 : Int) (a1_1 : Int) (a2_0 : Int) (a2_1 : Int) (r : Bool) (w : World) (h : mapmakerref09_three.f a0_0 a0_1 a1_0 a1_1 a2_0 a2_1 = some r) :
  Calls Try.prog 48 #[.agg #[.int .i64 a0_0, .int .i64 a0_1], .agg #[.int .i64 a1_0, .int .i64 a1_1], .agg #[.int .i64 a2_0, .int .i64 a2_1]] w fun e w' => e = .returned (.bool r) ∧ Below w.heap.size w w' := by
 have hu33 := Try.underlying33
 have HB := aM (Below.refl w.heap.size w)
 have H : ((mapmakerref08_Valid.f a0_0 a0_1).bind fun t295 => (if t295 = true then ((mapmakerref08_Valid.f a1_0 a1_1).bind fun t296 => (if t296 = true then ((mapmakerref08_Valid.f a2_0 a2_1).bind fun t297 => (some t297)) else (some false))) else (some false))) = some r := h
 clear h
 replace H := Option.bind_eq_some_iff.mp H
 obtain ⟨t295, A40, H⟩ := H
 try dsimp only at H
 have A4 := aM A40
 clear A40
 by_cases c5 : t295 = true
 ·subst c5
  have H1 : ((mapmakerref08_Valid.f a1_0 a1_1).bind fun t296 => (if t296 = true then ((mapmakerref08_Valid.f a2_0 a2_1).bind fun t297 => (some t297)) else (some false))) = some r := by rw [if_pos rfl] at H; exact H
  clear H
  have H := H1
  clear H1
  replace H := Option.bind_eq_some_iff.mp H
  obtain ⟨t296, A60, H⟩ := H
  try dsimp only at H
  have A6 := aM A60
  clear A60
  by_cases c7 : t296 = true
  ·subst c7
   have H1 : ((mapmakerref08_Valid.f a2_0 a2_1).bind fun t297 => (some t297)) = some r := by rw [if_pos rfl] at H; exact H
   clear H
   have H := H1
   clear H1
   replace H := Option.bind_eq_some_iff.mp H
   obtain ⟨t297, A80, H⟩ := H
   try dsimp only at H
   have A8 := aM A80
   clear A80
   obtain rfl := Option.some.inj H
   go_enter Try.func48, Try.ntmps48
   go_wp2_with (first | ((with_reducible refine gate_dst (N := 3) rfl ?_); refine box_event ?hg (N := 3) ?hd (cs := #[.int .i64 a0_0, .int .i64 a0_1]) (t := 33) ?hr ?_; (case hd => rfl); (case hg => rfl); (case hr => first | (go_simp; done) | (go_simp; rfl)); intro gb292 hg w9 hbox hb; have n0_ := aM (bS (bl) hb); have n1_ := aM (hbox); have n2_ := aM ((by rw [hg]; exact (below_size (bl)) : w.heap.size ≤ gb292)); have n3_ := aM ((by rw [hg]; exact (below_size (bl)) : w.heap.size ≤ gb292)); clear HB; have HB := n0_; have BK292 := n1_; have GW292 := n2_; have GE292 := n3_; clear n0_ n1_ n2_ n3_ hb hbox hg) | ((with_reducible refine gate_dst (N := 4) rfl ?_); refine box_event ?hg (N := 4) ?hd (cs := #[.int .i64 a1_0, .int .i64 a1_1]) (t := 33) ?hr ?_; (case hd => rfl); (case hg => rfl); (case hr => first | (go_simp; done) | (go_simp; rfl)); intro gb293 hg w10 hbox hb; have n0_ := aM (kB (g := gb292) (o := .cells #[.int .i64 a0_0, .int .i64 a0_1] 33 (0, 0)) (kl BK292) hb); have n1_ := aM (bS (bl) hb); have n2_ := aM (hbox); have n3_ := aM ((by rw [hg]; exact (below_size (bl)) : w.heap.size ≤ gb293)); have n4_ := aM ((by rw [hg]; exact (below_size (bl)) : w.heap.size ≤ gb293)); have n5_ := aM ((by rw [hg]; exact Nat.ne_of_lt (blk_lt (g := gb292) (o := .cells #[.int .i64 a0_0, .int .i64 a0_1] 33 (0, 0)) (kl BK292)) : gb292 ≠ gb293)); have n6_ := aM ((by rw [hg]; exact Nat.ne_of_gt (blk_lt (g := gb292) (o := .cells #[.int .i64 a0_0, .int .i64 a0_1] 33 (0, 0)) (kl BK292)) : gb293 ≠ gb292)); clear BK292 HB; have BK292 := n0_; have HB := n1_; have BK293 := n2_; have GW293 := n3_; have GE293 := n4_; have NB292_293 := n5_; have NB293_292 := n6_; clear n0_ n1_ n2_ n3_ n4_ n5_ n6_ hb hbox hg) | ((with_reducible refine gate_dst (N := 5) rfl ?_); refine box_event ?hg (N := 5) ?hd (cs := #[.int .i64 a2_0, .int .i64 a2_1]) (t := 33) ?hr ?_; (case hd => rfl); (case hg => rfl); (case hr => first | (go_simp; done) | (go_simp; rfl)); intro gb294 hg w11 hbox hb; have n0_ := aM (kB (g := gb292) (o := .cells #[.int .i64 a0_0, .int .i64 a0_1] 33 (0, 0)) (kl BK292) hb); have n1_ := aM (kB (g := gb293) (o := .cells #[.int .i64 a1_0, .int .i64 a1_1] 33 (0, 0)) (kl BK293) hb); have n2_ := aM (bS (bl) hb); have n3_ := aM (hbox); have n4_ := aM ((by rw [hg]; exact (below_size (bl)) : w.heap.size ≤ gb294)); have n5_ := aM ((by rw [hg]; exact (below_size (bl)) : w.heap.size ≤ gb294)); have n6_ := aM ((by rw [hg]; exact Nat.ne_of_lt (blk_lt (g := gb292) (o := .cells #[.int .i64 a0_0, .int .i64 a0_1] 33 (0, 0)) (kl BK292)) : gb292 ≠ gb294)); have n7_ := aM ((by rw [hg]; exact Nat.ne_of_gt (blk_lt (g := gb292) (o := .cells #[.int .i64 a0_0, .int .i64 a0_1] 33 (0, 0)) (kl BK292)) : gb294 ≠ gb292)); have n8_ := aM ((by rw [hg]; exact Nat.ne_of_lt (blk_lt (g := gb293) (o := .cells #[.int .i64 a1_0, .int .i64 a1_1] 33 (0, 0)) (kl BK293)) : gb293 ≠ gb294)); have n9_ := aM ((by rw [hg]; exact Nat.ne_of_gt (blk_lt (g := gb293) (o := .cells #[.int .i64 a1_0, .int .i64 a1_1] 33 (0, 0)) (kl BK293)) : gb294 ≠ gb293)); clear BK292 BK293 HB; have BK292 := n0_; have BK293 := n1_; have HB := n2_; have BK294 := n3_; have GW294 := n4_; have GE294 := n5_; have NB292_294 := n6_; have NB294_292 := n7_; have NB293_294 := n8_; have NB294_293 := n9_; clear n0_ n1_ n2_ n3_ n4_ n5_ n6_ n7_ n8_ n9_ hb hbox hg; have hnb12 := NB292_293.out; have hnc12 := NB293_292.out; have hnb13 := NB292_294.out; have hnc13 := NB294_292.out; have hcz14_0 : w11.cell? ⟨gb292, 0, none⟩ = some (.int .i64 a0_0) := (kC BK292.out 0).trans rfl; have hcz14_1 : w11.cell? ⟨gb292, 1, none⟩ = some (.int .i64 a0_1) := (kC BK292.out 1).trans rfl; have hfz14_0 := kF BK292.out 0; have hfz14_1 := kF BK292.out 1) | ((with_reducible refine gate_callee (f := 49) rfl ?_); refine goesL_ (some 8) rfl rfl Try.func49 (by kernel_rfl) rfl #[.agg #[.int .i64 a0_0, .int .i64 a0_1]] rfl (by (try simp only [List.map_toArray, List.map_cons, List.map_nil]); first | done | rfl | (simp only [List.length_drop, List.length_take]; rfl)) ?_; (with_reducible refine (mapmakerref08_Valid.calls a0_0 a0_1 true _ A4.out).mono ?_); rintro e w15 ⟨rfl, hb⟩; refine ⟨_, rfl, ?_⟩; have n0_ := aM (kB (g := gb292) (o := .cells #[.int .i64 a0_0, .int .i64 a0_1] 33 (0, 0)) (kl BK292) hb); have n1_ := aM (kB (g := gb293) (o := .cells #[.int .i64 a1_0, .int .i64 a1_1] 33 (0, 0)) (kl BK293) hb); have n2_ := aM (kB (g := gb294) (o := .cells #[.int .i64 a2_0, .int .i64 a2_1] 33 (0, 0)) (kl BK294) hb); have n3_ := aM (bS (bl) hb); clear BK292 BK293 BK294 HB; have BK292 := n0_; have BK293 := n1_; have BK294 := n2_; have HB := n3_; clear n0_ n1_ n2_ n3_; (try clear hb); (try clear hb2); (try clear hk); (try clear hi); have hnb16 := NB293_294.out; have hnc16 := NB294_293.out; have hcz17_0 : w15.cell? ⟨gb293, 0, none⟩ = some (.int .i64 a1_0) := (kC BK293.out 0).trans rfl; have hcz17_1 : w15.cell? ⟨gb293, 1, none⟩ = some (.int .i64 a1_1) := (kC BK293.out 1).trans rfl; have hfz17_0 := kF BK293.out 0; have hfz17_1 := kF BK293.out 1) | (go_at_call 49; (with_reducible refine (mapmakerref08_Valid.calls a1_0 a1_1 true _ A6.out).mono ?_); rintro e w18 ⟨rfl, hb⟩; replace BK292 := aM (kB (g := gb292) (o := .cells #[.int .i64 a0_0, .int .i64 a0_1] 33 (0, 0)) (kl BK292) hb); replace BK293 := aM (kB (g := gb293) (o := .cells #[.int .i64 a1_0, .int .i64 a1_1] 33 (0, 0)) (kl BK293) hb); replace BK294 := aM (kB (g := gb294) (o := .cells #[.int .i64 a2_0, .int .i64 a2_1] 33 (0, 0)) (kl BK294) hb); replace HB := aM (bS (bl) hb); (try clear hb); (try clear hb2); (try clear hk); (try clear hi); have hcz19_0 : w18.cell? ⟨gb294, 0, none⟩ = some (.int .i64 a2_0) := (kC BK294.out 0).trans rfl; have hcz19_1 : w18.cell? ⟨gb294, 1, none⟩ = some (.int .i64 a2_1) := (kC BK294.out 1).trans rfl; have hfz19_0 := kF BK294.out 0; have hfz19_1 := kF BK294.out 1) | (go_at_call 49; (with_reducible refine (mapmakerref08_Valid.calls a2_0 a2_1 t297 _ A8.out).mono ?_); rintro e w20 ⟨rfl, hb⟩; replace BK292 := aM (kB (g := gb292) (o := .cells #[.int .i64 a0_0, .int .i64 a0_1] 33 (0, 0)) (kl BK292) hb); replace BK293 := aM (kB (g := gb293) (o := .cells #[.int .i64 a1_0, .int .i64 a1_1] 33 (0, 0)) (kl BK293) hb); replace BK294 := aM (kB (g := gb294) (o := .cells #[.int .i64 a2_0, .int .i64 a2_1] 33 (0, 0)) (kl BK294) hb); replace HB := aM (bS (bl) hb); (try clear hb); (try clear hb2); (try clear hk); (try clear hi)))
   go_ret
   exact ⟨by first | rfl | (simp [errW_none, errW_some] <;> rfl) | (simp [*, errW_none, errW_some] <;> rfl), bl⟩
  ·replace c7 := Bool.eq_false_iff.mpr c7
   subst c7
   have H1 : (some false) = some r := by rw [if_neg (show ¬ (false = true) by decide)] at H; exact H
   clear H
   have H := H1
   clear H1
   obtain rfl := Option.some.inj H
   go_enter Try.func48, Try.ntmps48
   go_wp2_with (first | ((with_reducible refine gate_dst (N := 3) rfl ?_); refine box_event ?hg (N := 3) ?hd (cs := #[.int .i64 a0_0, .int .i64 a0_1]) (t := 33) ?hr ?_; (case hd => rfl); (case hg => rfl); (case hr => first | (go_simp; done) | (go_simp; rfl)); intro gb292 hg w21 hbox hb; have n0_ := aM (bS (bl) hb); have n1_ := aM (hbox); have n2_ := aM ((by rw [hg]; exact (below_size (bl)) : w.heap.size ≤ gb292)); have n3_ := aM ((by rw [hg]; exact (below_size (bl)) : w.heap.size ≤ gb292)); clear HB; have HB := n0_; have BK292 := n1_; have GW292 := n2_; have GE292 := n3_; clear n0_ n1_ n2_ n3_ hb hbox hg) | ((with_reducible refine gate_dst (N := 4) rfl ?_); refine box_event ?hg (N := 4) ?hd (cs := #[.int .i64 a1_0, .int .i64 a1_1]) (t := 33) ?hr ?_; (case hd => rfl); (case hg => rfl); (case hr => first | (go_simp; done) | (go_simp; rfl)); intro gb293 hg w22 hbox hb; have n0_ := aM (kB (g := gb292) (o := .cells #[.int .i64 a0_0, .int .i64 a0_1] 33 (0, 0)) (kl BK292) hb); have n1_ := aM (bS (bl) hb); have n2_ := aM (hbox); have n3_ := aM ((by rw [hg]; exact (below_size (bl)) : w.heap.size ≤ gb293)); have n4_ := aM ((by rw [hg]; exact (below_size (bl)) : w.heap.size ≤ gb293)); have n5_ := aM ((by rw [hg]; exact Nat.ne_of_lt (blk_lt (g := gb292) (o := .cells #[.int .i64 a0_0, .int .i64 a0_1] 33 (0, 0)) (kl BK292)) : gb292 ≠ gb293)); have n6_ := aM ((by rw [hg]; exact Nat.ne_of_gt (blk_lt (g := gb292) (o := .cells #[.int .i64 a0_0, .int .i64 a0_1] 33 (0, 0)) (kl BK292)) : gb293 ≠ gb292)); clear BK292 HB; have BK292 := n0_; have HB := n1_; have BK293 := n2_; have GW293 := n3_; have GE293 := n4_; have NB292_293 := n5_; have NB293_292 := n6_; clear n0_ n1_ n2_ n3_ n4_ n5_ n6_ hb hbox hg) | ((with_reducible refine gate_dst (N := 5) rfl ?_); refine box_event ?hg (N := 5) ?hd (cs := #[.int .i64 a2_0, .int .i64 a2_1]) (t := 33) ?hr ?_; (case hd => rfl); (case hg => rfl); (case hr => first | (go_simp; done) | (go_simp; rfl)); intro gb294 hg w23 hbox hb; have n0_ := aM (kB (g := gb292) (o := .cells #[.int .i64 a0_0, .int .i64 a0_1] 33 (0, 0)) (kl BK292) hb); have n1_ := aM (kB (g := gb293) (o := .cells #[.int .i64 a1_0, .int .i64 a1_1] 33 (0, 0)) (kl BK293) hb); have n2_ := aM (bS (bl) hb); have n3_ := aM (hbox); have n4_ := aM ((by rw [hg]; exact (below_size (bl)) : w.heap.size ≤ gb294)); have n5_ := aM ((by rw [hg]; exact (below_size (bl)) : w.heap.size ≤ gb294)); have n6_ := aM ((by rw [hg]; exact Nat.ne_of_lt (blk_lt (g := gb292) (o := .cells #[.int .i64 a0_0, .int .i64 a0_1] 33 (0, 0)) (kl BK292)) : gb292 ≠ gb294)); have n7_ := aM ((by rw [hg]; exact Nat.ne_of_gt (blk_lt (g := gb292) (o := .cells #[.int .i64 a0_0, .int .i64 a0_1] 33 (0, 0)) (kl BK292)) : gb294 ≠ gb292)); have n8_ := aM ((by rw [hg]; exact Nat.ne_of_lt (blk_lt (g := gb293) (o := .cells #[.int .i64 a1_0, .int .i64 a1_1] 33 (0, 0)) (kl BK293)) : gb293 ≠ gb294)); have n9_ := aM ((by rw [hg]; exact Nat.ne_of_gt (blk_lt (g := gb293) (o := .cells #[.int .i64 a1_0, .int .i64 a1_1] 33 (0, 0)) (kl BK293)) : gb294 ≠ gb293)); clear BK292 BK293 HB; have BK292 := n0_; have BK293 := n1_; have HB := n2_; have BK294 := n3_; have GW294 := n4_; have GE294 := n5_; have NB292_294 := n6_; have NB294_292 := n7_; have NB293_294 := n8_; have NB294_293 := n9_; clear n0_ n1_ n2_ n3_ n4_ n5_ n6_ n7_ n8_ n9_ hb hbox hg; have hnb24 := NB292_293.out; have hnc24 := NB293_292.out; have hnb25 := NB292_294.out; have hnc25 := NB294_292.out; have hcz26_0 : w23.cell? ⟨gb292, 0, none⟩ = some (.int .i64 a0_0) := (kC BK292.out 0).trans rfl; have hcz26_1 : w23.cell? ⟨gb292, 1, none⟩ = some (.int .i64 a0_1) := (kC BK292.out 1).trans rfl; have hfz26_0 := kF BK292.out 0; have hfz26_1 := kF BK292.out 1) | ((with_reducible refine gate_callee (f := 49) rfl ?_); refine goesL_ (some 8) rfl rfl Try.func49 (by kernel_rfl) rfl #[.agg #[.int .i64 a0_0, .int .i64 a0_1]] rfl (by (try simp only [List.map_toArray, List.map_cons, List.map_nil]); first | done | rfl | (simp only [List.length_drop, List.length_take]; rfl)) ?_; (with_reducible refine (mapmakerref08_Valid.calls a0_0 a0_1 true _ A4.out).mono ?_); rintro e w27 ⟨rfl, hb⟩; refine ⟨_, rfl, ?_⟩; have n0_ := aM (kB (g := gb292) (o := .cells #[.int .i64 a0_0, .int .i64 a0_1] 33 (0, 0)) (kl BK292) hb); have n1_ := aM (kB (g := gb293) (o := .cells #[.int .i64 a1_0, .int .i64 a1_1] 33 (0, 0)) (kl BK293) hb); have n2_ := aM (kB (g := gb294) (o := .cells #[.int .i64 a2_0, .int .i64 a2_1] 33 (0, 0)) (kl BK294) hb); have n3_ := aM (bS (bl) hb); clear BK292 BK293 BK294 HB; have BK292 := n0_; have BK293 := n1_; have BK294 := n2_; have HB := n3_; clear n0_ n1_ n2_ n3_; (try clear hb); (try clear hb2); (try clear hk); (try clear hi); have hnb28 := NB293_294.out; have hnc28 := NB294_293.out; have hcz29_0 : w27.cell? ⟨gb293, 0, none⟩ = some (.int .i64 a1_0) := (kC BK293.out 0).trans rfl; have hcz29_1 : w27.cell? ⟨gb293, 1, none⟩ = some (.int .i64 a1_1) := (kC BK293.out 1).trans rfl; have hfz29_0 := kF BK293.out 0; have hfz29_1 := kF BK293.out 1) | (go_at_call 49; (with_reducible refine (mapmakerref08_Valid.calls a1_0 a1_1 false _ A6.out).mono ?_); rintro e w30 ⟨rfl, hb⟩; replace BK292 := aM (kB (g := gb292) (o := .cells #[.int .i64 a0_0, .int .i64 a0_1] 33 (0, 0)) (kl BK292) hb); replace BK293 := aM (kB (g := gb293) (o := .cells #[.int .i64 a1_0, .int .i64 a1_1] 33 (0, 0)) (kl BK293) hb); replace BK294 := aM (kB (g := gb294) (o := .cells #[.int .i64 a2_0, .int .i64 a2_1] 33 (0, 0)) (kl BK294) hb); replace HB := aM (bS (bl) hb); (try clear hb); (try clear hb2); (try clear hk); (try clear hi)))
   go_ret
   exact ⟨by first | rfl | (simp [errW_none, errW_some] <;> rfl) | (simp [*, errW_none, errW_some] <;> rfl), bl⟩
 ·replace c5 := Bool.eq_false_iff.mpr c5
  subst c5
  have H1 : (some false) = some r := by rw [if_neg (show ¬ (false = true) by decide)] at H; exact H
  clear H
  have H := H1
  clear H1
  obtain rfl := Option.some.inj H
  go_enter Try.func48, Try.ntmps48
  go_wp2_with (first | ((with_reducible refine gate_dst (N := 3) rfl ?_); refine box_event ?hg (N := 3) ?hd (cs := #[.int .i64 a0_0, .int .i64 a0_1]) (t := 33) ?hr ?_; (case hd => rfl); (case hg => rfl); (case hr => first | (go_simp; done) | (go_simp; rfl)); intro gb292 hg w31 hbox hb; have n0_ := aM (bS (bl) hb); have n1_ := aM (hbox); have n2_ := aM ((by rw [hg]; exact (below_size (bl)) : w.heap.size ≤ gb292)); have n3_ := aM ((by rw [hg]; exact (below_size (bl)) : w.heap.size ≤ gb292)); clear HB; have HB := n0_; have BK292 := n1_; have GW292 := n2_; have GE292 := n3_; clear n0_ n1_ n2_ n3_ hb hbox hg) | ((with_reducible refine gate_dst (N := 4) rfl ?_); refine box_event ?hg (N := 4) ?hd (cs := #[.int .i64 a1_0, .int .i64 a1_1]) (t := 33) ?hr ?_; (case hd => rfl); (case hg => rfl); (case hr => first | (go_simp; done) | (go_simp; rfl)); intro gb293 hg w32 hbox hb; have n0_ := aM (kB (g := gb292) (o := .cells #[.int .i64 a0_0, .int .i64 a0_1] 33 (0, 0)) (kl BK292) hb); have n1_ := aM (bS (bl) hb); have n2_ := aM (hbox); have n3_ := aM ((by rw [hg]; exact (below_size (bl)) : w.heap.size ≤ gb293)); have n4_ := aM ((by rw [hg]; exact (below_size (bl)) : w.heap.size ≤ gb293)); have n5_ := aM ((by rw [hg]; exact Nat.ne_of_lt (blk_lt (g := gb292) (o := .cells #[.int .i64 a0_0, .int .i64 a0_1] 33 (0, 0)) (kl BK292)) : gb292 ≠ gb293)); have n6_ := aM ((by rw [hg]; exact Nat.ne_of_gt (blk_lt (g := gb292) (o := .cells #[.int .i64 a0_0, .int .i64 a0_1] 33 (0, 0)) (kl BK292)) : gb293 ≠ gb292)); clear BK292 HB; have BK292 := n0_; have HB := n1_; have BK293 := n2_; have GW293 := n3_; have GE293 := n4_; have NB292_293 := n5_; have NB293_292 := n6_; clear n0_ n1_ n2_ n3_ n4_ n5_ n6_ hb hbox hg) | ((with_reducible refine gate_dst (N := 5) rfl ?_); refine box_event ?hg (N := 5) ?hd (cs := #[.int .i64 a2_0, .int .i64 a2_1]) (t := 33) ?hr ?_; (case hd => rfl); (case hg => rfl); (case hr => first | (go_simp; done) | (go_simp; rfl)); intro gb294 hg w33 hbox hb; have n0_ := aM (kB (g := gb292) (o := .cells #[.int .i64 a0_0, .int .i64 a0_1] 33 (0, 0)) (kl BK292) hb); have n1_ := aM (kB (g := gb293) (o := .cells #[.int .i64 a1_0, .int .i64 a1_1] 33 (0, 0)) (kl BK293) hb); have n2_ := aM (bS (bl) hb); have n3_ := aM (hbox); have n4_ := aM ((by rw [hg]; exact (below_size (bl)) : w.heap.size ≤ gb294)); have n5_ := aM ((by rw [hg]; exact (below_size (bl)) : w.heap.size ≤ gb294)); have n6_ := aM ((by rw [hg]; exact Nat.ne_of_lt (blk_lt (g := gb292) (o := .cells #[.int .i64 a0_0, .int .i64 a0_1] 33 (0, 0)) (kl BK292)) : gb292 ≠ gb294)); have n7_ := aM ((by rw [hg]; exact Nat.ne_of_gt (blk_lt (g := gb292) (o := .cells #[.int .i64 a0_0, .int .i64 a0_1] 33 (0, 0)) (kl BK292)) : gb294 ≠ gb292)); have n8_ := aM ((by rw [hg]; exact Nat.ne_of_lt (blk_lt (g := gb293) (o := .cells #[.int .i64 a1_0, .int .i64 a1_1] 33 (0, 0)) (kl BK293)) : gb293 ≠ gb294)); have n9_ := aM ((by rw [hg]; exact Nat.ne_of_gt (blk_lt (g := gb293) (o := .cells #[.int .i64 a1_0, .int .i64 a1_1] 33 (0, 0)) (kl BK293)) : gb294 ≠ gb293)); clear BK292 BK293 HB; have BK292 := n0_; have BK293 := n1_; have HB := n2_; have BK294 := n3_; have GW294 := n4_; have GE294 := n5_; have NB292_294 := n6_; have NB294_292 := n7_; have NB293_294 := n8_; have NB294_293 := n9_; clear n0_ n1_ n2_ n3_ n4_ n5_ n6_ n7_ n8_ n9_ hb hbox hg; have hnb34 := NB292_293.out; have hnc34 := NB293_292.out; have hnb35 := NB292_294.out; have hnc35 := NB294_292.out; have hcz36_0 : w33.cell? ⟨gb292, 0, none⟩ = some (.int .i64 a0_0) := (kC BK292.out 0).trans rfl; have hcz36_1 : w33.cell? ⟨gb292, 1, none⟩ = some (.int .i64 a0_1) := (kC BK292.out 1).trans rfl; have hfz36_0 := kF BK292.out 0; have hfz36_1 := kF BK292.out 1) | ((with_reducible refine gate_callee (f := 49) rfl ?_); refine goesL_ (some 8) rfl rfl Try.func49 (by kernel_rfl) rfl #[.agg #[.int .i64 a0_0, .int .i64 a0_1]] rfl (by (try simp only [List.map_toArray, List.map_cons, List.map_nil]); first | done | rfl | (simp only [List.length_drop, List.length_take]; rfl)) ?_; (with_reducible refine (mapmakerref08_Valid.calls a0_0 a0_1 false _ A4.out).mono ?_); rintro e w37 ⟨rfl, hb⟩; refine ⟨_, rfl, ?_⟩; have n0_ := aM (kB (g := gb292) (o := .cells #[.int .i64 a0_0, .int .i64 a0_1] 33 (0, 0)) (kl BK292) hb); have n1_ := aM (kB (g := gb293) (o := .cells #[.int .i64 a1_0, .int .i64 a1_1] 33 (0, 0)) (kl BK293) hb); have n2_ := aM (kB (g := gb294) (o := .cells #[.int .i64 a2_0, .int .i64 a2_1] 33 (0, 0)) (kl BK294) hb); have n3_ := aM (bS (bl) hb); clear BK292 BK293 BK294 HB; have BK292 := n0_; have BK293 := n1_; have BK294 := n2_; have HB := n3_; clear n0_ n1_ n2_ n3_; (try clear hb); (try clear hb2); (try clear hk); (try clear hi)))
  go_ret
  exact ⟨by first | rfl | (simp [errW_none, errW_some] <;> rfl) | (simp [*, errW_none, errW_some] <;> rfl), bl⟩
def mapmakerref09_sign.f (a0 : Int) : Option (Int) := if a0 < 0 then (some (-1)) else (if a0 > 0 then (some 1) else (some 0))
set_option maxHeartbeats 8000000 in
set_option maxRecDepth 100000 in
theorem mapmakerref09_sign.calls (a0 : Int) (r : Int) (w : World) (h : mapmakerref09_sign.f a0 = some r) :
  Calls Try.prog 50 #[.int .i64 a0] w fun e w' => e = .returned (.int .i64 r) ∧ Drawn0 w w' := by
 have H : (if a0 < 0 then (some (-1)) else (if a0 > 0 then (some 1) else (some 0))) = some r := h
 clear h
 by_cases c2 : a0 < 0
 ·rw [if_pos c2] at H
  have c2b0 : decide (a0 < 0) = true := decide_eq_true c2
  clear c2
  obtain rfl := Option.some.inj H
  go_enter Try.func50, Try.ntmps50
  go_wp2
  go_ret
  exact ⟨by first | rfl | (simp; done) | (simp [*]; done), by repeat (first | exact Drawn0.refl _ | apply Drawn0.step)⟩
 ·rw [if_neg c2] at H
  have c2b0 : decide (a0 < 0) = false := decide_eq_false c2
  clear c2
  by_cases c3 : a0 > 0
  ·rw [if_pos c3] at H
   have c3b0 : decide (0 < a0) = true := decide_eq_true c3
   clear c3
   obtain rfl := Option.some.inj H
   go_enter Try.func50, Try.ntmps50
   go_wp2
   go_ret
   exact ⟨by first | rfl | (simp; done) | (simp [*]; done), by repeat (first | exact Drawn0.refl _ | apply Drawn0.step)⟩
  ·rw [if_neg c3] at H
   have c3b0 : decide (0 < a0) = false := decide_eq_false c3
   clear c3
   obtain rfl := Option.some.inj H
   go_enter Try.func50, Try.ntmps50
   go_wp2
   go_ret
   exact ⟨by first | rfl | (simp; done) | (simp [*]; done), by repeat (first | exact Drawn0.refl _ | apply Drawn0.step)⟩
def mapmakerref09_Turn.f (a0_0 : Int) (a0_1 : Int) (a1_0 : Int) (a1_1 : Int) (a2_0 : Int) (a2_1 : Int) : Option (Int) := (mapmakerref09_three.f a0_0 a0_1 a1_0 a1_1 a2_0 a2_1).bind fun t301 => (if t301 = true then (some (wrap64 ((wrap64 ((wrap64 (a1_0 - a0_0)) * (wrap64 (a2_1 - a0_1)))) - (wrap64 ((wrap64 (a1_1 - a0_1)) * (wrap64 (a2_0 - a0_0))))))) else (some 0))
set_option maxHeartbeats 8000000 in
set_option maxRecDepth 100000 in
theorem mapmakerref09_Turn.calls (a0_0 : Int) (a0_1 : Int) (a1_0 : Int) (a1_1 : Int) (a2_0 : Int) (a2_1 : Int) (r : Int) (w : World) (h : mapmakerref09_Turn.f a0_0 a0_1 a1_0 a1_1 a2_0 a2_1 = some r) :
  Calls Try.prog 51 #[.agg #[.int .i64 a0_0, .int .i64 a0_1], .agg #[.int .i64 a1_0, .int .i64 a1_1], .agg #[.int .i64 a2_0, .int .i64 a2_1]] w fun e w' => e = .returned (.int .i64 r) ∧ Below w.heap.size w w' := by
 have hu33 := Try.underlying33
 have HB := aM (Below.refl w.heap.size w)
 have H : ((mapmakerref09_three.f a0_0 a0_1 a1_0 a1_1 a2_0 a2_1).bind fun t301 => (if t301 = true then (some (wrap64 ((wrap64 ((wrap64 (a1_0 - a0_0)) * (wrap64 (a2_1 - a0_1)))) - (wrap64 ((wrap64 (a1_1 - a0_1)) * (wrap64 (a2_0 - a0_0))))))) else (some 0))) = some r := h
 clear h
 replace H := Option.bind_eq_some_iff.mp H
 obtain ⟨t301, A40, H⟩ := H
 try dsimp only at H
 have A4 := aM A40
 clear A40
 by_cases c5 : t301 = true
 ·subst c5
  have H1 : (some (wrap64 ((wrap64 ((wrap64 (a1_0 - a0_0)) * (wrap64 (a2_1 - a0_1)))) - (wrap64 ((wrap64 (a1_1 - a0_1)) * (wrap64 (a2_0 - a0_0))))))) = some r := by rw [if_pos rfl] at H; exact H
  clear H
  have H := H1
  clear H1
  obtain rfl := Option.some.inj H
  go_enter Try.func51, Try.ntmps51
  go_wp2_with (first | ((with_reducible refine gate_dst (N := 3) rfl ?_); refine box_event ?hg (N := 3) ?hd (cs := #[.int .i64 a0_0, .int .i64 a0_1]) (t := 33) ?hr ?_; (case hd => rfl); (case hg => rfl); (case hr => first | (go_simp; done) | (go_simp; rfl)); intro gb298 hg w6 hbox hb; have n0_ := aM (bS (bl) hb); have n1_ := aM (hbox); have n2_ := aM ((by rw [hg]; exact (below_size (bl)) : w.heap.size ≤ gb298)); have n3_ := aM ((by rw [hg]; exact (below_size (bl)) : w.heap.size ≤ gb298)); clear HB; have HB := n0_; have BK298 := n1_; have GW298 := n2_; have GE298 := n3_; clear n0_ n1_ n2_ n3_ hb hbox hg) | ((with_reducible refine gate_dst (N := 4) rfl ?_); refine box_event ?hg (N := 4) ?hd (cs := #[.int .i64 a1_0, .int .i64 a1_1]) (t := 33) ?hr ?_; (case hd => rfl); (case hg => rfl); (case hr => first | (go_simp; done) | (go_simp; rfl)); intro gb299 hg w7 hbox hb; have n0_ := aM (kB (g := gb298) (o := .cells #[.int .i64 a0_0, .int .i64 a0_1] 33 (0, 0)) (kl BK298) hb); have n1_ := aM (bS (bl) hb); have n2_ := aM (hbox); have n3_ := aM ((by rw [hg]; exact (below_size (bl)) : w.heap.size ≤ gb299)); have n4_ := aM ((by rw [hg]; exact (below_size (bl)) : w.heap.size ≤ gb299)); have n5_ := aM ((by rw [hg]; exact Nat.ne_of_lt (blk_lt (g := gb298) (o := .cells #[.int .i64 a0_0, .int .i64 a0_1] 33 (0, 0)) (kl BK298)) : gb298 ≠ gb299)); have n6_ := aM ((by rw [hg]; exact Nat.ne_of_gt (blk_lt (g := gb298) (o := .cells #[.int .i64 a0_0, .int .i64 a0_1] 33 (0, 0)) (kl BK298)) : gb299 ≠ gb298)); clear BK298 HB; have BK298 := n0_; have HB := n1_; have BK299 := n2_; have GW299 := n3_; have GE299 := n4_; have NB298_299 := n5_; have NB299_298 := n6_; clear n0_ n1_ n2_ n3_ n4_ n5_ n6_ hb hbox hg) | ((with_reducible refine gate_dst (N := 5) rfl ?_); refine box_event ?hg (N := 5) ?hd (cs := #[.int .i64 a2_0, .int .i64 a2_1]) (t := 33) ?hr ?_; (case hd => rfl); (case hg => rfl); (case hr => first | (go_simp; done) | (go_simp; rfl)); intro gb300 hg w8 hbox hb; have n0_ := aM (kB (g := gb298) (o := .cells #[.int .i64 a0_0, .int .i64 a0_1] 33 (0, 0)) (kl BK298) hb); have n1_ := aM (kB (g := gb299) (o := .cells #[.int .i64 a1_0, .int .i64 a1_1] 33 (0, 0)) (kl BK299) hb); have n2_ := aM (bS (bl) hb); have n3_ := aM (hbox); have n4_ := aM ((by rw [hg]; exact (below_size (bl)) : w.heap.size ≤ gb300)); have n5_ := aM ((by rw [hg]; exact (below_size (bl)) : w.heap.size ≤ gb300)); have n6_ := aM ((by rw [hg]; exact Nat.ne_of_lt (blk_lt (g := gb298) (o := .cells #[.int .i64 a0_0, .int .i64 a0_1] 33 (0, 0)) (kl BK298)) : gb298 ≠ gb300)); have n7_ := aM ((by rw [hg]; exact Nat.ne_of_gt (blk_lt (g := gb298) (o := .cells #[.int .i64 a0_0, .int .i64 a0_1] 33 (0, 0)) (kl BK298)) : gb300 ≠ gb298)); have n8_ := aM ((by rw [hg]; exact Nat.ne_of_lt (blk_lt (g := gb299) (o := .cells #[.int .i64 a1_0, .int .i64 a1_1] 33 (0, 0)) (kl BK299)) : gb299 ≠ gb300)); have n9_ := aM ((by rw [hg]; exact Nat.ne_of_gt (blk_lt (g := gb299) (o := .cells #[.int .i64 a1_0, .int .i64 a1_1] 33 (0, 0)) (kl BK299)) : gb300 ≠ gb299)); clear BK298 BK299 HB; have BK298 := n0_; have BK299 := n1_; have HB := n2_; have BK300 := n3_; have GW300 := n4_; have GE300 := n5_; have NB298_300 := n6_; have NB300_298 := n7_; have NB299_300 := n8_; have NB300_299 := n9_; clear n0_ n1_ n2_ n3_ n4_ n5_ n6_ n7_ n8_ n9_ hb hbox hg; have hnb9 := NB298_299.out; have hnc9 := NB299_298.out; have hnb10 := NB298_300.out; have hnc10 := NB300_298.out; have hcz11_0 : w8.cell? ⟨gb298, 0, none⟩ = some (.int .i64 a0_0) := (kC BK298.out 0).trans rfl; have hcz11_1 : w8.cell? ⟨gb298, 1, none⟩ = some (.int .i64 a0_1) := (kC BK298.out 1).trans rfl; have hfz11_0 := kF BK298.out 0; have hfz11_1 := kF BK298.out 1; have hnb12 := NB299_300.out; have hnc12 := NB300_299.out; have hcz13_0 : w8.cell? ⟨gb299, 0, none⟩ = some (.int .i64 a1_0) := (kC BK299.out 0).trans rfl; have hcz13_1 : w8.cell? ⟨gb299, 1, none⟩ = some (.int .i64 a1_1) := (kC BK299.out 1).trans rfl; have hfz13_0 := kF BK299.out 0; have hfz13_1 := kF BK299.out 1; have hcz14_0 : w8.cell? ⟨gb300, 0, none⟩ = some (.int .i64 a2_0) := (kC BK300.out 0).trans rfl; have hcz14_1 : w8.cell? ⟨gb300, 1, none⟩ = some (.int .i64 a2_1) := (kC BK300.out 1).trans rfl; have hfz14_0 := kF BK300.out 0; have hfz14_1 := kF BK300.out 1) | ((with_reducible refine gate_callee (f := 48) rfl ?_); refine goesL_ (some 10) rfl rfl Try.func48 (by kernel_rfl) rfl #[.agg #[.int .i64 a0_0, .int .i64 a0_1], .agg #[.int .i64 a1_0, .int .i64 a1_1], .agg #[.int .i64 a2_0, .int .i64 a2_1]] rfl (by (try simp only [List.map_toArray, List.map_cons, List.map_nil]); first | done | rfl | (simp only [List.length_drop, List.length_take]; rfl)) ?_; (with_reducible refine (mapmakerref09_three.calls a0_0 a0_1 a1_0 a1_1 a2_0 a2_1 true _ A4.out).mono ?_); rintro e w15 ⟨rfl, hb⟩; refine ⟨_, rfl, ?_⟩; have n0_ := aM (kB (g := gb298) (o := .cells #[.int .i64 a0_0, .int .i64 a0_1] 33 (0, 0)) (kl BK298) hb); have n1_ := aM (kB (g := gb299) (o := .cells #[.int .i64 a1_0, .int .i64 a1_1] 33 (0, 0)) (kl BK299) hb); have n2_ := aM (kB (g := gb300) (o := .cells #[.int .i64 a2_0, .int .i64 a2_1] 33 (0, 0)) (kl BK300) hb); have n3_ := aM (bS (bl) hb); clear BK298 BK299 BK300 HB; have BK298 := n0_; have BK299 := n1_; have BK300 := n2_; have HB := n3_; clear n0_ n1_ n2_ n3_; (try clear hb); (try clear hb2); (try clear hk); (try clear hi); have hcz16_0 : w15.cell? ⟨gb299, 0, none⟩ = some (.int .i64 a1_0) := (kC BK299.out 0).trans rfl; have hcz16_1 : w15.cell? ⟨gb299, 1, none⟩ = some (.int .i64 a1_1) := (kC BK299.out 1).trans rfl; have hfz16_0 := kF BK299.out 0; have hfz16_1 := kF BK299.out 1; have hcz17_0 : w15.cell? ⟨gb298, 0, none⟩ = some (.int .i64 a0_0) := (kC BK298.out 0).trans rfl; have hcz17_1 : w15.cell? ⟨gb298, 1, none⟩ = some (.int .i64 a0_1) := (kC BK298.out 1).trans rfl; have hfz17_0 := kF BK298.out 0; have hfz17_1 := kF BK298.out 1; have hcz18_0 : w15.cell? ⟨gb300, 0, none⟩ = some (.int .i64 a2_0) := (kC BK300.out 0).trans rfl; have hcz18_1 : w15.cell? ⟨gb300, 1, none⟩ = some (.int .i64 a2_1) := (kC BK300.out 1).trans rfl; have hfz18_0 := kF BK300.out 0; have hfz18_1 := kF BK300.out 1))
  go_ret
  exact ⟨by first | rfl | (simp [errW_none, errW_some] <;> rfl) | (simp [*, errW_none, errW_some] <;> rfl), bl⟩
 ·replace c5 := Bool.eq_false_iff.mpr c5
  subst c5
  have H1 : (some 0) = some r := by rw [if_neg (show ¬ (false = true) by decide)] at H; exact H
  clear H
  have H := H1
  clear H1
  obtain rfl := Option.some.inj H
  go_enter Try.func51, Try.ntmps51
  go_wp2_with (first | ((with_reducible refine gate_dst (N := 3) rfl ?_); refine box_event ?hg (N := 3) ?hd (cs := #[.int .i64 a0_0, .int .i64 a0_1]) (t := 33) ?hr ?_; (case hd => rfl); (case hg => rfl); (case hr => first | (go_simp; done) | (go_simp; rfl)); intro gb298 hg w19 hbox hb; have n0_ := aM (bS (bl) hb); have n1_ := aM (hbox); have n2_ := aM ((by rw [hg]; exact (below_size (bl)) : w.heap.size ≤ gb298)); have n3_ := aM ((by rw [hg]; exact (below_size (bl)) : w.heap.size ≤ gb298)); clear HB; have HB := n0_; have BK298 := n1_; have GW298 := n2_; have GE298 := n3_; clear n0_ n1_ n2_ n3_ hb hbox hg) | ((with_reducible refine gate_dst (N := 4) rfl ?_); refine box_event ?hg (N := 4) ?hd (cs := #[.int .i64 a1_0, .int .i64 a1_1]) (t := 33) ?hr ?_; (case hd => rfl); (case hg => rfl); (case hr => first | (go_simp; done) | (go_simp; rfl)); intro gb299 hg w20 hbox hb; have n0_ := aM (kB (g := gb298) (o := .cells #[.int .i64 a0_0, .int .i64 a0_1] 33 (0, 0)) (kl BK298) hb); have n1_ := aM (bS (bl) hb); have n2_ := aM (hbox); have n3_ := aM ((by rw [hg]; exact (below_size (bl)) : w.heap.size ≤ gb299)); have n4_ := aM ((by rw [hg]; exact (below_size (bl)) : w.heap.size ≤ gb299)); have n5_ := aM ((by rw [hg]; exact Nat.ne_of_lt (blk_lt (g := gb298) (o := .cells #[.int .i64 a0_0, .int .i64 a0_1] 33 (0, 0)) (kl BK298)) : gb298 ≠ gb299)); have n6_ := aM ((by rw [hg]; exact Nat.ne_of_gt (blk_lt (g := gb298) (o := .cells #[.int .i64 a0_0, .int .i64 a0_1] 33 (0, 0)) (kl BK298)) : gb299 ≠ gb298)); clear BK298 HB; have BK298 := n0_; have HB := n1_; have BK299 := n2_; have GW299 := n3_; have GE299 := n4_; have NB298_299 := n5_; have NB299_298 := n6_; clear n0_ n1_ n2_ n3_ n4_ n5_ n6_ hb hbox hg) | ((with_reducible refine gate_dst (N := 5) rfl ?_); refine box_event ?hg (N := 5) ?hd (cs := #[.int .i64 a2_0, .int .i64 a2_1]) (t := 33) ?hr ?_; (case hd => rfl); (case hg => rfl); (case hr => first | (go_simp; done) | (go_simp; rfl)); intro gb300 hg w21 hbox hb; have n0_ := aM (kB (g := gb298) (o := .cells #[.int .i64 a0_0, .int .i64 a0_1] 33 (0, 0)) (kl BK298) hb); have n1_ := aM (kB (g := gb299) (o := .cells #[.int .i64 a1_0, .int .i64 a1_1] 33 (0, 0)) (kl BK299) hb); have n2_ := aM (bS (bl) hb); have n3_ := aM (hbox); have n4_ := aM ((by rw [hg]; exact (below_size (bl)) : w.heap.size ≤ gb300)); have n5_ := aM ((by rw [hg]; exact (below_size (bl)) : w.heap.size ≤ gb300)); have n6_ := aM ((by rw [hg]; exact Nat.ne_of_lt (blk_lt (g := gb298) (o := .cells #[.int .i64 a0_0, .int .i64 a0_1] 33 (0, 0)) (kl BK298)) : gb298 ≠ gb300)); have n7_ := aM ((by rw [hg]; exact Nat.ne_of_gt (blk_lt (g := gb298) (o := .cells #[.int .i64 a0_0, .int .i64 a0_1] 33 (0, 0)) (kl BK298)) : gb300 ≠ gb298)); have n8_ := aM ((by rw [hg]; exact Nat.ne_of_lt (blk_lt (g := gb299) (o := .cells #[.int .i64 a1_0, .int .i64 a1_1] 33 (0, 0)) (kl BK299)) : gb299 ≠ gb300)); have n9_ := aM ((by rw [hg]; exact Nat.ne_of_gt (blk_lt (g := gb299) (o := .cells #[.int .i64 a1_0, .int .i64 a1_1] 33 (0, 0)) (kl BK299)) : gb300 ≠ gb299)); clear BK298 BK299 HB; have BK298 := n0_; have BK299 := n1_; have HB := n2_; have BK300 := n3_; have GW300 := n4_; have GE300 := n5_; have NB298_300 := n6_; have NB300_298 := n7_; have NB299_300 := n8_; have NB300_299 := n9_; clear n0_ n1_ n2_ n3_ n4_ n5_ n6_ n7_ n8_ n9_ hb hbox hg; have hnb22 := NB298_299.out; have hnc22 := NB299_298.out; have hnb23 := NB298_300.out; have hnc23 := NB300_298.out; have hcz24_0 : w21.cell? ⟨gb298, 0, none⟩ = some (.int .i64 a0_0) := (kC BK298.out 0).trans rfl; have hcz24_1 : w21.cell? ⟨gb298, 1, none⟩ = some (.int .i64 a0_1) := (kC BK298.out 1).trans rfl; have hfz24_0 := kF BK298.out 0; have hfz24_1 := kF BK298.out 1; have hnb25 := NB299_300.out; have hnc25 := NB300_299.out; have hcz26_0 : w21.cell? ⟨gb299, 0, none⟩ = some (.int .i64 a1_0) := (kC BK299.out 0).trans rfl; have hcz26_1 : w21.cell? ⟨gb299, 1, none⟩ = some (.int .i64 a1_1) := (kC BK299.out 1).trans rfl; have hfz26_0 := kF BK299.out 0; have hfz26_1 := kF BK299.out 1; have hcz27_0 : w21.cell? ⟨gb300, 0, none⟩ = some (.int .i64 a2_0) := (kC BK300.out 0).trans rfl; have hcz27_1 : w21.cell? ⟨gb300, 1, none⟩ = some (.int .i64 a2_1) := (kC BK300.out 1).trans rfl; have hfz27_0 := kF BK300.out 0; have hfz27_1 := kF BK300.out 1) | ((with_reducible refine gate_callee (f := 48) rfl ?_); refine goesL_ (some 10) rfl rfl Try.func48 (by kernel_rfl) rfl #[.agg #[.int .i64 a0_0, .int .i64 a0_1], .agg #[.int .i64 a1_0, .int .i64 a1_1], .agg #[.int .i64 a2_0, .int .i64 a2_1]] rfl (by (try simp only [List.map_toArray, List.map_cons, List.map_nil]); first | done | rfl | (simp only [List.length_drop, List.length_take]; rfl)) ?_; (with_reducible refine (mapmakerref09_three.calls a0_0 a0_1 a1_0 a1_1 a2_0 a2_1 false _ A4.out).mono ?_); rintro e w28 ⟨rfl, hb⟩; refine ⟨_, rfl, ?_⟩; have n0_ := aM (kB (g := gb298) (o := .cells #[.int .i64 a0_0, .int .i64 a0_1] 33 (0, 0)) (kl BK298) hb); have n1_ := aM (kB (g := gb299) (o := .cells #[.int .i64 a1_0, .int .i64 a1_1] 33 (0, 0)) (kl BK299) hb); have n2_ := aM (kB (g := gb300) (o := .cells #[.int .i64 a2_0, .int .i64 a2_1] 33 (0, 0)) (kl BK300) hb); have n3_ := aM (bS (bl) hb); clear BK298 BK299 BK300 HB; have BK298 := n0_; have BK299 := n1_; have BK300 := n2_; have HB := n3_; clear n0_ n1_ n2_ n3_; (try clear hb); (try clear hb2); (try clear hk); (try clear hi)))
  go_ret
  exact ⟨by first | rfl | (simp [errW_none, errW_some] <;> rfl) | (simp [*, errW_none, errW_some] <;> rfl), bl⟩
def mapmakerref09_On.f (a0_0 : Int) (a0_1 : Int) (a1_0 : Int) (a1_1 : Int) (a2_0 : Int) (a2_1 : Int) : Option (Bool) := (mapmakerref09_three.f a0_0 a0_1 a1_0 a1_1 a2_0 a2_1).bind fun t305 => (if t305 = true then ((mapmakerref09_Turn.f a1_0 a1_1 a2_0 a2_1 a0_0 a0_1).bind fun t306 => (if t306 = 0 then (if a0_0 ≥ (mn a1_0 a2_0) then (if a0_0 ≤ (mx a1_0 a2_0) then (if a0_1 ≥ (mn a1_1 a2_1) then (some (decide (a0_1 ≤ (mx a1_1 a2_1)))) else (some false)) else (some false)) else (some false)) else (some false))) else (some false))
set_option maxHeartbeats 8000000 in
set_option maxRecDepth 100000 in
theorem mapmakerref09_On.calls (a0_0 : Int) (a0_1 : Int) (a1_0 : Int) (a1_1 : Int) (a2_0 : Int) (a2_1 : Int) (r : Bool) (w : World) (h : mapmakerref09_On.f a0_0 a0_1 a1_0 a1_1 a2_0 a2_1 = some r) :
  Calls Try.prog 52 #[.agg #[.int .i64 a0_0, .int .i64 a0_1], .agg #[.int .i64 a1_0, .int .i64 a1_1], .agg #[.int .i64 a2_0, .int .i64 a2_1]] w fun e w' => e = .returned (.bool r) ∧ Below w.heap.size w w' := by
 have hu33 := Try.underlying33
 have HB := aM (Below.refl w.heap.size w)
 have H : ((mapmakerref09_three.f a0_0 a0_1 a1_0 a1_1 a2_0 a2_1).bind fun t305 => (if t305 = true then ((mapmakerref09_Turn.f a1_0 a1_1 a2_0 a2_1 a0_0 a0_1).bind fun t306 => (if t306 = 0 then (if a0_0 ≥ (mn a1_0 a2_0) then (if a0_0 ≤ (mx a1_0 a2_0) then (if a0_1 ≥ (mn a1_1 a2_1) then (some (decide (a0_1 ≤ (mx a1_1 a2_1)))) else (some false)) else (some false)) else (some false)) else (some false))) else (some false))) = some r := h
 clear h
 replace H := Option.bind_eq_some_iff.mp H
 obtain ⟨t305, A40, H⟩ := H
 try dsimp only at H
 have A4 := aM A40
 clear A40
 by_cases c5 : t305 = true
 ·subst c5
  have H1 : ((mapmakerref09_Turn.f a1_0 a1_1 a2_0 a2_1 a0_0 a0_1).bind fun t306 => (if t306 = 0 then (if a0_0 ≥ (mn a1_0 a2_0) then (if a0_0 ≤ (mx a1_0 a2_0) then (if a0_1 ≥ (mn a1_1 a2_1) then (some (decide (a0_1 ≤ (mx a1_1 a2_1)))) else (some false)) else (some false)) else (some false)) else (some false))) = some r := by rw [if_pos rfl] at H; exact H
  clear H
  have H := H1
  clear H1
  replace H := Option.bind_eq_some_iff.mp H
  obtain ⟨t306, A60, H⟩ := H
  try dsimp only at H
  have A6 := aM A60
  clear A60
  by_cases c7 : t306 = 0
  ·rw [if_pos c7] at H
   have c7b0 : (t306 == 0) = true := beq_iff_eq.mpr c7
   have c7b1 : (t306 != 0) = false := bne_eq_false_iff_eq.mpr c7
   clear c7
   obtain ⟨ji8, hji8⟩ : ∃ j_ : Int, (mn a1_0 a2_0) = j_ := ⟨_, rfl⟩
   replace H : (if a0_0 ≥ (ji8) then (if a0_0 ≤ (mx a1_0 a2_0) then (if a0_1 ≥ (mn a1_1 a2_1) then (some (decide (a0_1 ≤ (mx a1_1 a2_1)))) else (some false)) else (some false)) else (some false)) = some r := by first | (rw [hji8] at H; exact H) | (simp only [hji8] at H ⊢; exact H)
   (try rw [hji8] at A4)
   (try rw [hji8] at A6)
   have hji8_ : (if a2_0 < a1_0 then a2_0 else a1_0) = ji8 := hji8
   by_cases c9 : a0_0 ≥ (ji8)
   ·rw [if_pos c9] at H
    have c9b0 : decide ((ji8) ≤ a0_0) = true := decide_eq_true c9
    clear c9
    obtain ⟨ji10, hji10⟩ : ∃ j_ : Int, (mx a1_0 a2_0) = j_ := ⟨_, rfl⟩
    replace H : (if a0_0 ≤ (ji10) then (if a0_1 ≥ (mn a1_1 a2_1) then (some (decide (a0_1 ≤ (mx a1_1 a2_1)))) else (some false)) else (some false)) = some r := by first | (rw [hji10] at H; exact H) | (simp only [hji10] at H ⊢; exact H)
    (try rw [hji10] at A4)
    (try rw [hji10] at A6)
    have hji10_ : (if a1_0 < a2_0 then a2_0 else a1_0) = ji10 := hji10
    by_cases c11 : a0_0 ≤ (ji10)
    ·rw [if_pos c11] at H
     have c11b0 : decide (a0_0 ≤ (ji10)) = true := decide_eq_true c11
     clear c11
     obtain ⟨ji12, hji12⟩ : ∃ j_ : Int, (mn a1_1 a2_1) = j_ := ⟨_, rfl⟩
     replace H : (if a0_1 ≥ (ji12) then (some (decide (a0_1 ≤ (mx a1_1 a2_1)))) else (some false)) = some r := by first | (rw [hji12] at H; exact H) | (simp only [hji12] at H ⊢; exact H)
     (try rw [hji12] at A4)
     (try rw [hji12] at A6)
     have hji12_ : (if a2_1 < a1_1 then a2_1 else a1_1) = ji12 := hji12
     by_cases c13 : a0_1 ≥ (ji12)
     ·rw [if_pos c13] at H
      have c13b0 : decide ((ji12) ≤ a0_1) = true := decide_eq_true c13
      clear c13
      obtain ⟨ji14, hji14⟩ : ∃ j_ : Int, (mx a1_1 a2_1) = j_ := ⟨_, rfl⟩
      replace H : (some (decide (a0_1 ≤ (ji14)))) = some r := by first | (rw [hji14] at H; exact H) | (simp only [hji14] at H ⊢; exact H)
      (try rw [hji14] at A4)
      (try rw [hji14] at A6)
      have hji14_ : (if a1_1 < a2_1 then a2_1 else a1_1) = ji14 := hji14
      obtain rfl := Option.some.inj H
      go_enter Try.func52, Try.ntmps52
      go_wp2_with (first | ((with_reducible refine gate_dst (N := 3) rfl ?_); (try (refine gate_guard (by rfl) ?_; dsimp only)); refine box_event ?hg (N := 3) ?hd (cs := #[.int .i64 a0_0, .int .i64 a0_1]) (t := 33) ?hr ?_; (case hd => rfl); (case hg => rfl); (case hr => first | (go_simp; done) | (go_simp; rfl)); intro gb302 hg w15 hbox hb; have n0_ := aM (bS (bl) hb); have n1_ := aM (hbox); have n2_ := aM ((by rw [hg]; exact (below_size (bl)) : w.heap.size ≤ gb302)); have n3_ := aM ((by rw [hg]; exact (below_size (bl)) : w.heap.size ≤ gb302)); clear HB; have HB := n0_; have BK302 := n1_; have GW302 := n2_; have GE302 := n3_; clear n0_ n1_ n2_ n3_ hb hbox hg) | ((with_reducible refine gate_dst (N := 4) rfl ?_); (try (refine gate_guard (by rfl) ?_; dsimp only)); refine box_event ?hg (N := 4) ?hd (cs := #[.int .i64 a1_0, .int .i64 a1_1]) (t := 33) ?hr ?_; (case hd => rfl); (case hg => rfl); (case hr => first | (go_simp; done) | (go_simp; rfl)); intro gb303 hg w16 hbox hb; have n0_ := aM (kB (g := gb302) (o := .cells #[.int .i64 a0_0, .int .i64 a0_1] 33 (0, 0)) (kl BK302) hb); have n1_ := aM (bS (bl) hb); have n2_ := aM (hbox); have n3_ := aM ((by rw [hg]; exact (below_size (bl)) : w.heap.size ≤ gb303)); have n4_ := aM ((by rw [hg]; exact (below_size (bl)) : w.heap.size ≤ gb303)); have n5_ := aM ((by rw [hg]; exact Nat.ne_of_lt (blk_lt (g := gb302) (o := .cells #[.int .i64 a0_0, .int .i64 a0_1] 33 (0, 0)) (kl BK302)) : gb302 ≠ gb303)); have n6_ := aM ((by rw [hg]; exact Nat.ne_of_gt (blk_lt (g := gb302) (o := .cells #[.int .i64 a0_0, .int .i64 a0_1] 33 (0, 0)) (kl BK302)) : gb303 ≠ gb302)); clear BK302 HB; have BK302 := n0_; have HB := n1_; have BK303 := n2_; have GW303 := n3_; have GE303 := n4_; have NB302_303 := n5_; have NB303_302 := n6_; clear n0_ n1_ n2_ n3_ n4_ n5_ n6_ hb hbox hg) | ((with_reducible refine gate_dst (N := 5) rfl ?_); (try (refine gate_guard (by rfl) ?_; dsimp only)); refine box_event ?hg (N := 5) ?hd (cs := #[.int .i64 a2_0, .int .i64 a2_1]) (t := 33) ?hr ?_; (case hd => rfl); (case hg => rfl); (case hr => first | (go_simp; done) | (go_simp; rfl)); intro gb304 hg w17 hbox hb; have n0_ := aM (kB (g := gb302) (o := .cells #[.int .i64 a0_0, .int .i64 a0_1] 33 (0, 0)) (kl BK302) hb); have n1_ := aM (kB (g := gb303) (o := .cells #[.int .i64 a1_0, .int .i64 a1_1] 33 (0, 0)) (kl BK303) hb); have n2_ := aM (bS (bl) hb); have n3_ := aM (hbox); have n4_ := aM ((by rw [hg]; exact (below_size (bl)) : w.heap.size ≤ gb304)); have n5_ := aM ((by rw [hg]; exact (below_size (bl)) : w.heap.size ≤ gb304)); have n6_ := aM ((by rw [hg]; exact Nat.ne_of_lt (blk_lt (g := gb302) (o := .cells #[.int .i64 a0_0, .int .i64 a0_1] 33 (0, 0)) (kl BK302)) : gb302 ≠ gb304)); have n7_ := aM ((by rw [hg]; exact Nat.ne_of_gt (blk_lt (g := gb302) (o := .cells #[.int .i64 a0_0, .int .i64 a0_1] 33 (0, 0)) (kl BK302)) : gb304 ≠ gb302)); have n8_ := aM ((by rw [hg]; exact Nat.ne_of_lt (blk_lt (g := gb303) (o := .cells #[.int .i64 a1_0, .int .i64 a1_1] 33 (0, 0)) (kl BK303)) : gb303 ≠ gb304)); have n9_ := aM ((by rw [hg]; exact Nat.ne_of_gt (blk_lt (g := gb303) (o := .cells #[.int .i64 a1_0, .int .i64 a1_1] 33 (0, 0)) (kl BK303)) : gb304 ≠ gb303)); clear BK302 BK303 HB; have BK302 := n0_; have BK303 := n1_; have HB := n2_; have BK304 := n3_; have GW304 := n4_; have GE304 := n5_; have NB302_304 := n6_; have NB304_302 := n7_; have NB303_304 := n8_; have NB304_303 := n9_; clear n0_ n1_ n2_ n3_ n4_ n5_ n6_ n7_ n8_ n9_ hb hbox hg; have hnb18 := NB302_303.out; have hnc18 := NB303_302.out; have hnb19 := NB302_304.out; have hnc19 := NB304_302.out; have hcz20_0 : w17.cell? ⟨gb302, 0, none⟩ = some (.int .i64 a0_0) := (kC BK302.out 0).trans rfl; have hcz20_1 : w17.cell? ⟨gb302, 1, none⟩ = some (.int .i64 a0_1) := (kC BK302.out 1).trans rfl; have hfz20_0 := kF BK302.out 0; have hfz20_1 := kF BK302.out 1; have hnb21 := NB303_304.out; have hnc21 := NB304_303.out; have hcz22_0 : w17.cell? ⟨gb303, 0, none⟩ = some (.int .i64 a1_0) := (kC BK303.out 0).trans rfl; have hcz22_1 : w17.cell? ⟨gb303, 1, none⟩ = some (.int .i64 a1_1) := (kC BK303.out 1).trans rfl; have hfz22_0 := kF BK303.out 0; have hfz22_1 := kF BK303.out 1; have hcz23_0 : w17.cell? ⟨gb304, 0, none⟩ = some (.int .i64 a2_0) := (kC BK304.out 0).trans rfl; have hcz23_1 : w17.cell? ⟨gb304, 1, none⟩ = some (.int .i64 a2_1) := (kC BK304.out 1).trans rfl; have hfz23_0 := kF BK304.out 0; have hfz23_1 := kF BK304.out 1) | ((with_reducible refine gate_callee (f := 48) rfl ?_); refine goesL_ (some 10) rfl rfl Try.func48 (by kernel_rfl) rfl #[.agg #[.int .i64 a0_0, .int .i64 a0_1], .agg #[.int .i64 a1_0, .int .i64 a1_1], .agg #[.int .i64 a2_0, .int .i64 a2_1]] rfl (by (try simp only [List.map_toArray, List.map_cons, List.map_nil]); first | done | rfl | (simp only [List.length_drop, List.length_take]; rfl)) ?_; (with_reducible refine (mapmakerref09_three.calls a0_0 a0_1 a1_0 a1_1 a2_0 a2_1 true _ A4.out).mono ?_); rintro e w24 ⟨rfl, hb⟩; refine ⟨_, rfl, ?_⟩; have n0_ := aM (kB (g := gb302) (o := .cells #[.int .i64 a0_0, .int .i64 a0_1] 33 (0, 0)) (kl BK302) hb); have n1_ := aM (kB (g := gb303) (o := .cells #[.int .i64 a1_0, .int .i64 a1_1] 33 (0, 0)) (kl BK303) hb); have n2_ := aM (kB (g := gb304) (o := .cells #[.int .i64 a2_0, .int .i64 a2_1] 33 (0, 0)) (kl BK304) hb); have n3_ := aM (bS (bl) hb); clear BK302 BK303 BK304 HB; have BK302 := n0_; have BK303 := n1_; have BK304 := n2_; have HB := n3_; clear n0_ n1_ n2_ n3_; (try clear hb); (try clear hb2); (try clear hk); (try clear hi); have hcz25_0 : w24.cell? ⟨gb303, 0, none⟩ = some (.int .i64 a1_0) := (kC BK303.out 0).trans rfl; have hcz25_1 : w24.cell? ⟨gb303, 1, none⟩ = some (.int .i64 a1_1) := (kC BK303.out 1).trans rfl; have hfz25_0 := kF BK303.out 0; have hfz25_1 := kF BK303.out 1; have hcz26_0 : w24.cell? ⟨gb304, 0, none⟩ = some (.int .i64 a2_0) := (kC BK304.out 0).trans rfl; have hcz26_1 : w24.cell? ⟨gb304, 1, none⟩ = some (.int .i64 a2_1) := (kC BK304.out 1).trans rfl; have hfz26_0 := kF BK304.out 0; have hfz26_1 := kF BK304.out 1; have hcz27_0 : w24.cell? ⟨gb302, 0, none⟩ = some (.int .i64 a0_0) := (kC BK302.out 0).trans rfl; have hcz27_1 : w24.cell? ⟨gb302, 1, none⟩ = some (.int .i64 a0_1) := (kC BK302.out 1).trans rfl; have hfz27_0 := kF BK302.out 0; have hfz27_1 := kF BK302.out 1) | (go_at_call 51; (with_reducible refine (mapmakerref09_Turn.calls a1_0 a1_1 a2_0 a2_1 a0_0 a0_1 t306 _ A6.out).mono ?_); rintro e w28 ⟨rfl, hb⟩; replace BK302 := aM (kB (g := gb302) (o := .cells #[.int .i64 a0_0, .int .i64 a0_1] 33 (0, 0)) (kl BK302) hb); replace BK303 := aM (kB (g := gb303) (o := .cells #[.int .i64 a1_0, .int .i64 a1_1] 33 (0, 0)) (kl BK303) hb); replace BK304 := aM (kB (g := gb304) (o := .cells #[.int .i64 a2_0, .int .i64 a2_1] 33 (0, 0)) (kl BK304) hb); replace HB := aM (bS (bl) hb); (try clear hb); (try clear hb2); (try clear hk); (try clear hi); have hcz29_0 : w28.cell? ⟨gb302, 0, none⟩ = some (.int .i64 a0_0) := (kC BK302.out 0).trans rfl; have hcz29_1 : w28.cell? ⟨gb302, 1, none⟩ = some (.int .i64 a0_1) := (kC BK302.out 1).trans rfl; have hfz29_0 := kF BK302.out 0; have hfz29_1 := kF BK302.out 1; have hcz30_0 : w28.cell? ⟨gb303, 0, none⟩ = some (.int .i64 a1_0) := (kC BK303.out 0).trans rfl; have hcz30_1 : w28.cell? ⟨gb303, 1, none⟩ = some (.int .i64 a1_1) := (kC BK303.out 1).trans rfl; have hfz30_0 := kF BK303.out 0; have hfz30_1 := kF BK303.out 1; have hcz31_0 : w28.cell? ⟨gb304, 0, none⟩ = some (.int .i64 a2_0) := (kC BK304.out 0).trans rfl; have hcz31_1 : w28.cell? ⟨gb304, 1, none⟩ = some (.int .i64 a2_1) := (kC BK304.out 1).trans rfl; have hfz31_0 := kF BK304.out 0; have hfz31_1 := kF BK304.out 1))
      go_ret
      exact ⟨by first | rfl | (simp [errW_none, errW_some] <;> rfl) | (simp only [← hji8, ← hji10, ← hji12, ← hji14]; first | rfl | (simp [errW_none, errW_some] <;> rfl)) | (simp [*, errW_none, errW_some] <;> rfl), bl⟩
     ·rw [if_neg c13] at H
      have c13b0 : decide ((ji12) ≤ a0_1) = false := decide_eq_false c13
      clear c13
      obtain rfl := Option.some.inj H
      go_enter Try.func52, Try.ntmps52
      go_wp2_with (first | ((with_reducible refine gate_dst (N := 3) rfl ?_); (try (refine gate_guard (by rfl) ?_; dsimp only)); refine box_event ?hg (N := 3) ?hd (cs := #[.int .i64 a0_0, .int .i64 a0_1]) (t := 33) ?hr ?_; (case hd => rfl); (case hg => rfl); (case hr => first | (go_simp; done) | (go_simp; rfl)); intro gb302 hg w32 hbox hb; have n0_ := aM (bS (bl) hb); have n1_ := aM (hbox); have n2_ := aM ((by rw [hg]; exact (below_size (bl)) : w.heap.size ≤ gb302)); have n3_ := aM ((by rw [hg]; exact (below_size (bl)) : w.heap.size ≤ gb302)); clear HB; have HB := n0_; have BK302 := n1_; have GW302 := n2_; have GE302 := n3_; clear n0_ n1_ n2_ n3_ hb hbox hg) | ((with_reducible refine gate_dst (N := 4) rfl ?_); (try (refine gate_guard (by rfl) ?_; dsimp only)); refine box_event ?hg (N := 4) ?hd (cs := #[.int .i64 a1_0, .int .i64 a1_1]) (t := 33) ?hr ?_; (case hd => rfl); (case hg => rfl); (case hr => first | (go_simp; done) | (go_simp; rfl)); intro gb303 hg w33 hbox hb; have n0_ := aM (kB (g := gb302) (o := .cells #[.int .i64 a0_0, .int .i64 a0_1] 33 (0, 0)) (kl BK302) hb); have n1_ := aM (bS (bl) hb); have n2_ := aM (hbox); have n3_ := aM ((by rw [hg]; exact (below_size (bl)) : w.heap.size ≤ gb303)); have n4_ := aM ((by rw [hg]; exact (below_size (bl)) : w.heap.size ≤ gb303)); have n5_ := aM ((by rw [hg]; exact Nat.ne_of_lt (blk_lt (g := gb302) (o := .cells #[.int .i64 a0_0, .int .i64 a0_1] 33 (0, 0)) (kl BK302)) : gb302 ≠ gb303)); have n6_ := aM ((by rw [hg]; exact Nat.ne_of_gt (blk_lt (g := gb302) (o := .cells #[.int .i64 a0_0, .int .i64 a0_1] 33 (0, 0)) (kl BK302)) : gb303 ≠ gb302)); clear BK302 HB; have BK302 := n0_; have HB := n1_; have BK303 := n2_; have GW303 := n3_; have GE303 := n4_; have NB302_303 := n5_; have NB303_302 := n6_; clear n0_ n1_ n2_ n3_ n4_ n5_ n6_ hb hbox hg) | ((with_reducible refine gate_dst (N := 5) rfl ?_); (try (refine gate_guard (by rfl) ?_; dsimp only)); refine box_event ?hg (N := 5) ?hd (cs := #[.int .i64 a2_0, .int .i64 a2_1]) (t := 33) ?hr ?_; (case hd => rfl); (case hg => rfl); (case hr => first | (go_simp; done) | (go_simp; rfl)); intro gb304 hg w34 hbox hb; have n0_ := aM (kB (g := gb302) (o := .cells #[.int .i64 a0_0, .int .i64 a0_1] 33 (0, 0)) (kl BK302) hb); have n1_ := aM (kB (g := gb303) (o := .cells #[.int .i64 a1_0, .int .i64 a1_1] 33 (0, 0)) (kl BK303) hb); have n2_ := aM (bS (bl) hb); have n3_ := aM (hbox); have n4_ := aM ((by rw [hg]; exact (below_size (bl)) : w.heap.size ≤ gb304)); have n5_ := aM ((by rw [hg]; exact (below_size (bl)) : w.heap.size ≤ gb304)); have n6_ := aM ((by rw [hg]; exact Nat.ne_of_lt (blk_lt (g := gb302) (o := .cells #[.int .i64 a0_0, .int .i64 a0_1] 33 (0, 0)) (kl BK302)) : gb302 ≠ gb304)); have n7_ := aM ((by rw [hg]; exact Nat.ne_of_gt (blk_lt (g := gb302) (o := .cells #[.int .i64 a0_0, .int .i64 a0_1] 33 (0, 0)) (kl BK302)) : gb304 ≠ gb302)); have n8_ := aM ((by rw [hg]; exact Nat.ne_of_lt (blk_lt (g := gb303) (o := .cells #[.int .i64 a1_0, .int .i64 a1_1] 33 (0, 0)) (kl BK303)) : gb303 ≠ gb304)); have n9_ := aM ((by rw [hg]; exact Nat.ne_of_gt (blk_lt (g := gb303) (o := .cells #[.int .i64 a1_0, .int .i64 a1_1] 33 (0, 0)) (kl BK303)) : gb304 ≠ gb303)); clear BK302 BK303 HB; have BK302 := n0_; have BK303 := n1_; have HB := n2_; have BK304 := n3_; have GW304 := n4_; have GE304 := n5_; have NB302_304 := n6_; have NB304_302 := n7_; have NB303_304 := n8_; have NB304_303 := n9_; clear n0_ n1_ n2_ n3_ n4_ n5_ n6_ n7_ n8_ n9_ hb hbox hg; have hnb35 := NB302_303.out; have hnc35 := NB303_302.out; have hnb36 := NB302_304.out; have hnc36 := NB304_302.out; have hcz37_0 : w34.cell? ⟨gb302, 0, none⟩ = some (.int .i64 a0_0) := (kC BK302.out 0).trans rfl; have hcz37_1 : w34.cell? ⟨gb302, 1, none⟩ = some (.int .i64 a0_1) := (kC BK302.out 1).trans rfl; have hfz37_0 := kF BK302.out 0; have hfz37_1 := kF BK302.out 1; have hnb38 := NB303_304.out; have hnc38 := NB304_303.out; have hcz39_0 : w34.cell? ⟨gb303, 0, none⟩ = some (.int .i64 a1_0) := (kC BK303.out 0).trans rfl; have hcz39_1 : w34.cell? ⟨gb303, 1, none⟩ = some (.int .i64 a1_1) := (kC BK303.out 1).trans rfl; have hfz39_0 := kF BK303.out 0; have hfz39_1 := kF BK303.out 1; have hcz40_0 : w34.cell? ⟨gb304, 0, none⟩ = some (.int .i64 a2_0) := (kC BK304.out 0).trans rfl; have hcz40_1 : w34.cell? ⟨gb304, 1, none⟩ = some (.int .i64 a2_1) := (kC BK304.out 1).trans rfl; have hfz40_0 := kF BK304.out 0; have hfz40_1 := kF BK304.out 1) | ((with_reducible refine gate_callee (f := 48) rfl ?_); refine goesL_ (some 10) rfl rfl Try.func48 (by kernel_rfl) rfl #[.agg #[.int .i64 a0_0, .int .i64 a0_1], .agg #[.int .i64 a1_0, .int .i64 a1_1], .agg #[.int .i64 a2_0, .int .i64 a2_1]] rfl (by (try simp only [List.map_toArray, List.map_cons, List.map_nil]); first | done | rfl | (simp only [List.length_drop, List.length_take]; rfl)) ?_; (with_reducible refine (mapmakerref09_three.calls a0_0 a0_1 a1_0 a1_1 a2_0 a2_1 true _ A4.out).mono ?_); rintro e w41 ⟨rfl, hb⟩; refine ⟨_, rfl, ?_⟩; have n0_ := aM (kB (g := gb302) (o := .cells #[.int .i64 a0_0, .int .i64 a0_1] 33 (0, 0)) (kl BK302) hb); have n1_ := aM (kB (g := gb303) (o := .cells #[.int .i64 a1_0, .int .i64 a1_1] 33 (0, 0)) (kl BK303) hb); have n2_ := aM (kB (g := gb304) (o := .cells #[.int .i64 a2_0, .int .i64 a2_1] 33 (0, 0)) (kl BK304) hb); have n3_ := aM (bS (bl) hb); clear BK302 BK303 BK304 HB; have BK302 := n0_; have BK303 := n1_; have BK304 := n2_; have HB := n3_; clear n0_ n1_ n2_ n3_; (try clear hb); (try clear hb2); (try clear hk); (try clear hi); have hcz42_0 : w41.cell? ⟨gb303, 0, none⟩ = some (.int .i64 a1_0) := (kC BK303.out 0).trans rfl; have hcz42_1 : w41.cell? ⟨gb303, 1, none⟩ = some (.int .i64 a1_1) := (kC BK303.out 1).trans rfl; have hfz42_0 := kF BK303.out 0; have hfz42_1 := kF BK303.out 1; have hcz43_0 : w41.cell? ⟨gb304, 0, none⟩ = some (.int .i64 a2_0) := (kC BK304.out 0).trans rfl; have hcz43_1 : w41.cell? ⟨gb304, 1, none⟩ = some (.int .i64 a2_1) := (kC BK304.out 1).trans rfl; have hfz43_0 := kF BK304.out 0; have hfz43_1 := kF BK304.out 1; have hcz44_0 : w41.cell? ⟨gb302, 0, none⟩ = some (.int .i64 a0_0) := (kC BK302.out 0).trans rfl; have hcz44_1 : w41.cell? ⟨gb302, 1, none⟩ = some (.int .i64 a0_1) := (kC BK302.out 1).trans rfl; have hfz44_0 := kF BK302.out 0; have hfz44_1 := kF BK302.out 1) | (go_at_call 51; (with_reducible refine (mapmakerref09_Turn.calls a1_0 a1_1 a2_0 a2_1 a0_0 a0_1 t306 _ A6.out).mono ?_); rintro e w45 ⟨rfl, hb⟩; replace BK302 := aM (kB (g := gb302) (o := .cells #[.int .i64 a0_0, .int .i64 a0_1] 33 (0, 0)) (kl BK302) hb); replace BK303 := aM (kB (g := gb303) (o := .cells #[.int .i64 a1_0, .int .i64 a1_1] 33 (0, 0)) (kl BK303) hb); replace BK304 := aM (kB (g := gb304) (o := .cells #[.int .i64 a2_0, .int .i64 a2_1] 33 (0, 0)) (kl BK304) hb); replace HB := aM (bS (bl) hb); (try clear hb); (try clear hb2); (try clear hk); (try clear hi); have hcz46_0 : w45.cell? ⟨gb302, 0, none⟩ = some (.int .i64 a0_0) := (kC BK302.out 0).trans rfl; have hcz46_1 : w45.cell? ⟨gb302, 1, none⟩ = some (.int .i64 a0_1) := (kC BK302.out 1).trans rfl; have hfz46_0 := kF BK302.out 0; have hfz46_1 := kF BK302.out 1; have hcz47_0 : w45.cell? ⟨gb303, 0, none⟩ = some (.int .i64 a1_0) := (kC BK303.out 0).trans rfl; have hcz47_1 : w45.cell? ⟨gb303, 1, none⟩ = some (.int .i64 a1_1) := (kC BK303.out 1).trans rfl; have hfz47_0 := kF BK303.out 0; have hfz47_1 := kF BK303.out 1; have hcz48_0 : w45.cell? ⟨gb304, 0, none⟩ = some (.int .i64 a2_0) := (kC BK304.out 0).trans rfl; have hcz48_1 : w45.cell? ⟨gb304, 1, none⟩ = some (.int .i64 a2_1) := (kC BK304.out 1).trans rfl; have hfz48_0 := kF BK304.out 0; have hfz48_1 := kF BK304.out 1))
      go_ret
      exact ⟨by first | rfl | (simp [errW_none, errW_some] <;> rfl) | (simp only [← hji8, ← hji10, ← hji12]; first | rfl | (simp [errW_none, errW_some] <;> rfl)) | (simp [*, errW_none, errW_some] <;> rfl), bl⟩
    ·rw [if_neg c11] at H
     have c11b0 : decide (a0_0 ≤ (ji10)) = false := decide_eq_false c11
     clear c11
     obtain rfl := Option.some.inj H
     go_enter Try.func52, Try.ntmps52
     go_wp2_with (first | ((with_reducible refine gate_dst (N := 3) rfl ?_); (try (refine gate_guard (by rfl) ?_; dsimp only)); refine box_event ?hg (N := 3) ?hd (cs := #[.int .i64 a0_0, .int .i64 a0_1]) (t := 33) ?hr ?_; (case hd => rfl); (case hg => rfl); (case hr => first | (go_simp; done) | (go_simp; rfl)); intro gb302 hg w49 hbox hb; have n0_ := aM (bS (bl) hb); have n1_ := aM (hbox); have n2_ := aM ((by rw [hg]; exact (below_size (bl)) : w.heap.size ≤ gb302)); have n3_ := aM ((by rw [hg]; exact (below_size (bl)) : w.heap.size ≤ gb302)); clear HB; have HB := n0_; have BK302 := n1_; have GW302 := n2_; have GE302 := n3_; clear n0_ n1_ n2_ n3_ hb hbox hg) | ((with_reducible refine gate_dst (N := 4) rfl ?_); (try (refine gate_guard (by rfl) ?_; dsimp only)); refine box_event ?hg (N := 4) ?hd (cs := #[.int .i64 a1_0, .int .i64 a1_1]) (t := 33) ?hr ?_; (case hd => rfl); (case hg => rfl); (case hr => first | (go_simp; done) | (go_simp; rfl)); intro gb303 hg w50 hbox hb; have n0_ := aM (kB (g := gb302) (o := .cells #[.int .i64 a0_0, .int .i64 a0_1] 33 (0, 0)) (kl BK302) hb); have n1_ := aM (bS (bl) hb); have n2_ := aM (hbox); have n3_ := aM ((by rw [hg]; exact (below_size (bl)) : w.heap.size ≤ gb303)); have n4_ := aM ((by rw [hg]; exact (below_size (bl)) : w.heap.size ≤ gb303)); have n5_ := aM ((by rw [hg]; exact Nat.ne_of_lt (blk_lt (g := gb302) (o := .cells #[.int .i64 a0_0, .int .i64 a0_1] 33 (0, 0)) (kl BK302)) : gb302 ≠ gb303)); have n6_ := aM ((by rw [hg]; exact Nat.ne_of_gt (blk_lt (g := gb302) (o := .cells #[.int .i64 a0_0, .int .i64 a0_1] 33 (0, 0)) (kl BK302)) : gb303 ≠ gb302)); clear BK302 HB; have BK302 := n0_; have HB := n1_; have BK303 := n2_; have GW303 := n3_; have GE303 := n4_; have NB302_303 := n5_; have NB303_302 := n6_; clear n0_ n1_ n2_ n3_ n4_ n5_ n6_ hb hbox hg) | ((with_reducible refine gate_dst (N := 5) rfl ?_); (try (refine gate_guard (by rfl) ?_; dsimp only)); refine box_event ?hg (N := 5) ?hd (cs := #[.int .i64 a2_0, .int .i64 a2_1]) (t := 33) ?hr ?_; (case hd => rfl); (case hg => rfl); (case hr => first | (go_simp; done) | (go_simp; rfl)); intro gb304 hg w51 hbox hb; have n0_ := aM (kB (g := gb302) (o := .cells #[.int .i64 a0_0, .int .i64 a0_1] 33 (0, 0)) (kl BK302) hb); have n1_ := aM (kB (g := gb303) (o := .cells #[.int .i64 a1_0, .int .i64 a1_1] 33 (0, 0)) (kl BK303) hb); have n2_ := aM (bS (bl) hb); have n3_ := aM (hbox); have n4_ := aM ((by rw [hg]; exact (below_size (bl)) : w.heap.size ≤ gb304)); have n5_ := aM ((by rw [hg]; exact (below_size (bl)) : w.heap.size ≤ gb304)); have n6_ := aM ((by rw [hg]; exact Nat.ne_of_lt (blk_lt (g := gb302) (o := .cells #[.int .i64 a0_0, .int .i64 a0_1] 33 (0, 0)) (kl BK302)) : gb302 ≠ gb304)); have n7_ := aM ((by rw [hg]; exact Nat.ne_of_gt (blk_lt (g := gb302) (o := .cells #[.int .i64 a0_0, .int .i64 a0_1] 33 (0, 0)) (kl BK302)) : gb304 ≠ gb302)); have n8_ := aM ((by rw [hg]; exact Nat.ne_of_lt (blk_lt (g := gb303) (o := .cells #[.int .i64 a1_0, .int .i64 a1_1] 33 (0, 0)) (kl BK303)) : gb303 ≠ gb304)); have n9_ := aM ((by rw [hg]; exact Nat.ne_of_gt (blk_lt (g := gb303) (o := .cells #[.int .i64 a1_0, .int .i64 a1_1] 33 (0, 0)) (kl BK303)) : gb304 ≠ gb303)); clear BK302 BK303 HB; have BK302 := n0_; have BK303 := n1_; have HB := n2_; have BK304 := n3_; have GW304 := n4_; have GE304 := n5_; have NB302_304 := n6_; have NB304_302 := n7_; have NB303_304 := n8_; have NB304_303 := n9_; clear n0_ n1_ n2_ n3_ n4_ n5_ n6_ n7_ n8_ n9_ hb hbox hg; have hnb52 := NB302_303.out; have hnc52 := NB303_302.out; have hnb53 := NB302_304.out; have hnc53 := NB304_302.out; have hcz54_0 : w51.cell? ⟨gb302, 0, none⟩ = some (.int .i64 a0_0) := (kC BK302.out 0).trans rfl; have hcz54_1 : w51.cell? ⟨gb302, 1, none⟩ = some (.int .i64 a0_1) := (kC BK302.out 1).trans rfl; have hfz54_0 := kF BK302.out 0; have hfz54_1 := kF BK302.out 1; have hnb55 := NB303_304.out; have hnc55 := NB304_303.out; have hcz56_0 : w51.cell? ⟨gb303, 0, none⟩ = some (.int .i64 a1_0) := (kC BK303.out 0).trans rfl; have hcz56_1 : w51.cell? ⟨gb303, 1, none⟩ = some (.int .i64 a1_1) := (kC BK303.out 1).trans rfl; have hfz56_0 := kF BK303.out 0; have hfz56_1 := kF BK303.out 1; have hcz57_0 : w51.cell? ⟨gb304, 0, none⟩ = some (.int .i64 a2_0) := (kC BK304.out 0).trans rfl; have hcz57_1 : w51.cell? ⟨gb304, 1, none⟩ = some (.int .i64 a2_1) := (kC BK304.out 1).trans rfl; have hfz57_0 := kF BK304.out 0; have hfz57_1 := kF BK304.out 1) | ((with_reducible refine gate_callee (f := 48) rfl ?_); refine goesL_ (some 10) rfl rfl Try.func48 (by kernel_rfl) rfl #[.agg #[.int .i64 a0_0, .int .i64 a0_1], .agg #[.int .i64 a1_0, .int .i64 a1_1], .agg #[.int .i64 a2_0, .int .i64 a2_1]] rfl (by (try simp only [List.map_toArray, List.map_cons, List.map_nil]); first | done | rfl | (simp only [List.length_drop, List.length_take]; rfl)) ?_; (with_reducible refine (mapmakerref09_three.calls a0_0 a0_1 a1_0 a1_1 a2_0 a2_1 true _ A4.out).mono ?_); rintro e w58 ⟨rfl, hb⟩; refine ⟨_, rfl, ?_⟩; have n0_ := aM (kB (g := gb302) (o := .cells #[.int .i64 a0_0, .int .i64 a0_1] 33 (0, 0)) (kl BK302) hb); have n1_ := aM (kB (g := gb303) (o := .cells #[.int .i64 a1_0, .int .i64 a1_1] 33 (0, 0)) (kl BK303) hb); have n2_ := aM (kB (g := gb304) (o := .cells #[.int .i64 a2_0, .int .i64 a2_1] 33 (0, 0)) (kl BK304) hb); have n3_ := aM (bS (bl) hb); clear BK302 BK303 BK304 HB; have BK302 := n0_; have BK303 := n1_; have BK304 := n2_; have HB := n3_; clear n0_ n1_ n2_ n3_; (try clear hb); (try clear hb2); (try clear hk); (try clear hi); have hcz59_0 : w58.cell? ⟨gb303, 0, none⟩ = some (.int .i64 a1_0) := (kC BK303.out 0).trans rfl; have hcz59_1 : w58.cell? ⟨gb303, 1, none⟩ = some (.int .i64 a1_1) := (kC BK303.out 1).trans rfl; have hfz59_0 := kF BK303.out 0; have hfz59_1 := kF BK303.out 1; have hcz60_0 : w58.cell? ⟨gb304, 0, none⟩ = some (.int .i64 a2_0) := (kC BK304.out 0).trans rfl; have hcz60_1 : w58.cell? ⟨gb304, 1, none⟩ = some (.int .i64 a2_1) := (kC BK304.out 1).trans rfl; have hfz60_0 := kF BK304.out 0; have hfz60_1 := kF BK304.out 1; have hcz61_0 : w58.cell? ⟨gb302, 0, none⟩ = some (.int .i64 a0_0) := (kC BK302.out 0).trans rfl; have hcz61_1 : w58.cell? ⟨gb302, 1, none⟩ = some (.int .i64 a0_1) := (kC BK302.out 1).trans rfl; have hfz61_0 := kF BK302.out 0; have hfz61_1 := kF BK302.out 1) | (go_at_call 51; (with_reducible refine (mapmakerref09_Turn.calls a1_0 a1_1 a2_0 a2_1 a0_0 a0_1 t306 _ A6.out).mono ?_); rintro e w62 ⟨rfl, hb⟩; replace BK302 := aM (kB (g := gb302) (o := .cells #[.int .i64 a0_0, .int .i64 a0_1] 33 (0, 0)) (kl BK302) hb); replace BK303 := aM (kB (g := gb303) (o := .cells #[.int .i64 a1_0, .int .i64 a1_1] 33 (0, 0)) (kl BK303) hb); replace BK304 := aM (kB (g := gb304) (o := .cells #[.int .i64 a2_0, .int .i64 a2_1] 33 (0, 0)) (kl BK304) hb); replace HB := aM (bS (bl) hb); (try clear hb); (try clear hb2); (try clear hk); (try clear hi); have hcz63_0 : w62.cell? ⟨gb302, 0, none⟩ = some (.int .i64 a0_0) := (kC BK302.out 0).trans rfl; have hcz63_1 : w62.cell? ⟨gb302, 1, none⟩ = some (.int .i64 a0_1) := (kC BK302.out 1).trans rfl; have hfz63_0 := kF BK302.out 0; have hfz63_1 := kF BK302.out 1; have hcz64_0 : w62.cell? ⟨gb303, 0, none⟩ = some (.int .i64 a1_0) := (kC BK303.out 0).trans rfl; have hcz64_1 : w62.cell? ⟨gb303, 1, none⟩ = some (.int .i64 a1_1) := (kC BK303.out 1).trans rfl; have hfz64_0 := kF BK303.out 0; have hfz64_1 := kF BK303.out 1; have hcz65_0 : w62.cell? ⟨gb304, 0, none⟩ = some (.int .i64 a2_0) := (kC BK304.out 0).trans rfl; have hcz65_1 : w62.cell? ⟨gb304, 1, none⟩ = some (.int .i64 a2_1) := (kC BK304.out 1).trans rfl; have hfz65_0 := kF BK304.out 0; have hfz65_1 := kF BK304.out 1))
     go_ret
     exact ⟨by first | rfl | (simp [errW_none, errW_some] <;> rfl) | (simp only [← hji8, ← hji10]; first | rfl | (simp [errW_none, errW_some] <;> rfl)) | (simp [*, errW_none, errW_some] <;> rfl), bl⟩
   ·rw [if_neg c9] at H
    have c9b0 : decide ((ji8) ≤ a0_0) = false := decide_eq_false c9
    clear c9
    obtain rfl := Option.some.inj H
    go_enter Try.func52, Try.ntmps52
    go_wp2_with (first | ((with_reducible refine gate_dst (N := 3) rfl ?_); (try (refine gate_guard (by rfl) ?_; dsimp only)); refine box_event ?hg (N := 3) ?hd (cs := #[.int .i64 a0_0, .int .i64 a0_1]) (t := 33) ?hr ?_; (case hd => rfl); (case hg => rfl); (case hr => first | (go_simp; done) | (go_simp; rfl)); intro gb302 hg w66 hbox hb; have n0_ := aM (bS (bl) hb); have n1_ := aM (hbox); have n2_ := aM ((by rw [hg]; exact (below_size (bl)) : w.heap.size ≤ gb302)); have n3_ := aM ((by rw [hg]; exact (below_size (bl)) : w.heap.size ≤ gb302)); clear HB; have HB := n0_; have BK302 := n1_; have GW302 := n2_; have GE302 := n3_; clear n0_ n1_ n2_ n3_ hb hbox hg) | ((with_reducible refine gate_dst (N := 4) rfl ?_); (try (refine gate_guard (by rfl) ?_; dsimp only)); refine box_event ?hg (N := 4) ?hd (cs := #[.int .i64 a1_0, .int .i64 a1_1]) (t := 33) ?hr ?_; (case hd => rfl); (case hg => rfl); (case hr => first | (go_simp; done) | (go_simp; rfl)); intro gb303 hg w67 hbox hb; have n0_ := aM (kB (g := gb302) (o := .cells #[.int .i64 a0_0, .int .i64 a0_1] 33 (0, 0)) (kl BK302) hb); have n1_ := aM (bS (bl) hb); have n2_ := aM (hbox); have n3_ := aM ((by rw [hg]; exact (below_size (bl)) : w.heap.size ≤ gb303)); have n4_ := aM ((by rw [hg]; exact (below_size (bl)) : w.heap.size ≤ gb303)); have n5_ := aM ((by rw [hg]; exact Nat.ne_of_lt (blk_lt (g := gb302) (o := .cells #[.int .i64 a0_0, .int .i64 a0_1] 33 (0, 0)) (kl BK302)) : gb302 ≠ gb303)); have n6_ := aM ((by rw [hg]; exact Nat.ne_of_gt (blk_lt (g := gb302) (o := .cells #[.int .i64 a0_0, .int .i64 a0_1] 33 (0, 0)) (kl BK302)) : gb303 ≠ gb302)); clear BK302 HB; have BK302 := n0_; have HB := n1_; have BK303 := n2_; have GW303 := n3_; have GE303 := n4_; have NB302_303 := n5_; have NB303_302 := n6_; clear n0_ n1_ n2_ n3_ n4_ n5_ n6_ hb hbox hg) | ((with_reducible refine gate_dst (N := 5) rfl ?_); (try (refine gate_guard (by rfl) ?_; dsimp only)); refine box_event ?hg (N := 5) ?hd (cs := #[.int .i64 a2_0, .int .i64 a2_1]) (t := 33) ?hr ?_; (case hd => rfl); (case hg => rfl); (case hr => first | (go_simp; done) | (go_simp; rfl)); intro gb304 hg w68 hbox hb; have n0_ := aM (kB (g := gb302) (o := .cells #[.int .i64 a0_0, .int .i64 a0_1] 33 (0, 0)) (kl BK302) hb); have n1_ := aM (kB (g := gb303) (o := .cells #[.int .i64 a1_0, .int .i64 a1_1] 33 (0, 0)) (kl BK303) hb); have n2_ := aM (bS (bl) hb); have n3_ := aM (hbox); have n4_ := aM ((by rw [hg]; exact (below_size (bl)) : w.heap.size ≤ gb304)); have n5_ := aM ((by rw [hg]; exact (below_size (bl)) : w.heap.size ≤ gb304)); have n6_ := aM ((by rw [hg]; exact Nat.ne_of_lt (blk_lt (g := gb302) (o := .cells #[.int .i64 a0_0, .int .i64 a0_1] 33 (0, 0)) (kl BK302)) : gb302 ≠ gb304)); have n7_ := aM ((by rw [hg]; exact Nat.ne_of_gt (blk_lt (g := gb302) (o := .cells #[.int .i64 a0_0, .int .i64 a0_1] 33 (0, 0)) (kl BK302)) : gb304 ≠ gb302)); have n8_ := aM ((by rw [hg]; exact Nat.ne_of_lt (blk_lt (g := gb303) (o := .cells #[.int .i64 a1_0, .int .i64 a1_1] 33 (0, 0)) (kl BK303)) : gb303 ≠ gb304)); have n9_ := aM ((by rw [hg]; exact Nat.ne_of_gt (blk_lt (g := gb303) (o := .cells #[.int .i64 a1_0, .int .i64 a1_1] 33 (0, 0)) (kl BK303)) : gb304 ≠ gb303)); clear BK302 BK303 HB; have BK302 := n0_; have BK303 := n1_; have HB := n2_; have BK304 := n3_; have GW304 := n4_; have GE304 := n5_; have NB302_304 := n6_; have NB304_302 := n7_; have NB303_304 := n8_; have NB304_303 := n9_; clear n0_ n1_ n2_ n3_ n4_ n5_ n6_ n7_ n8_ n9_ hb hbox hg; have hnb69 := NB302_303.out; have hnc69 := NB303_302.out; have hnb70 := NB302_304.out; have hnc70 := NB304_302.out; have hcz71_0 : w68.cell? ⟨gb302, 0, none⟩ = some (.int .i64 a0_0) := (kC BK302.out 0).trans rfl; have hcz71_1 : w68.cell? ⟨gb302, 1, none⟩ = some (.int .i64 a0_1) := (kC BK302.out 1).trans rfl; have hfz71_0 := kF BK302.out 0; have hfz71_1 := kF BK302.out 1; have hnb72 := NB303_304.out; have hnc72 := NB304_303.out; have hcz73_0 : w68.cell? ⟨gb303, 0, none⟩ = some (.int .i64 a1_0) := (kC BK303.out 0).trans rfl; have hcz73_1 : w68.cell? ⟨gb303, 1, none⟩ = some (.int .i64 a1_1) := (kC BK303.out 1).trans rfl; have hfz73_0 := kF BK303.out 0; have hfz73_1 := kF BK303.out 1; have hcz74_0 : w68.cell? ⟨gb304, 0, none⟩ = some (.int .i64 a2_0) := (kC BK304.out 0).trans rfl; have hcz74_1 : w68.cell? ⟨gb304, 1, none⟩ = some (.int .i64 a2_1) := (kC BK304.out 1).trans rfl; have hfz74_0 := kF BK304.out 0; have hfz74_1 := kF BK304.out 1) | ((with_reducible refine gate_callee (f := 48) rfl ?_); refine goesL_ (some 10) rfl rfl Try.func48 (by kernel_rfl) rfl #[.agg #[.int .i64 a0_0, .int .i64 a0_1], .agg #[.int .i64 a1_0, .int .i64 a1_1], .agg #[.int .i64 a2_0, .int .i64 a2_1]] rfl (by (try simp only [List.map_toArray, List.map_cons, List.map_nil]); first | done | rfl | (simp only [List.length_drop, List.length_take]; rfl)) ?_; (with_reducible refine (mapmakerref09_three.calls a0_0 a0_1 a1_0 a1_1 a2_0 a2_1 true _ A4.out).mono ?_); rintro e w75 ⟨rfl, hb⟩; refine ⟨_, rfl, ?_⟩; have n0_ := aM (kB (g := gb302) (o := .cells #[.int .i64 a0_0, .int .i64 a0_1] 33 (0, 0)) (kl BK302) hb); have n1_ := aM (kB (g := gb303) (o := .cells #[.int .i64 a1_0, .int .i64 a1_1] 33 (0, 0)) (kl BK303) hb); have n2_ := aM (kB (g := gb304) (o := .cells #[.int .i64 a2_0, .int .i64 a2_1] 33 (0, 0)) (kl BK304) hb); have n3_ := aM (bS (bl) hb); clear BK302 BK303 BK304 HB; have BK302 := n0_; have BK303 := n1_; have BK304 := n2_; have HB := n3_; clear n0_ n1_ n2_ n3_; (try clear hb); (try clear hb2); (try clear hk); (try clear hi); have hcz76_0 : w75.cell? ⟨gb303, 0, none⟩ = some (.int .i64 a1_0) := (kC BK303.out 0).trans rfl; have hcz76_1 : w75.cell? ⟨gb303, 1, none⟩ = some (.int .i64 a1_1) := (kC BK303.out 1).trans rfl; have hfz76_0 := kF BK303.out 0; have hfz76_1 := kF BK303.out 1; have hcz77_0 : w75.cell? ⟨gb304, 0, none⟩ = some (.int .i64 a2_0) := (kC BK304.out 0).trans rfl; have hcz77_1 : w75.cell? ⟨gb304, 1, none⟩ = some (.int .i64 a2_1) := (kC BK304.out 1).trans rfl; have hfz77_0 := kF BK304.out 0; have hfz77_1 := kF BK304.out 1; have hcz78_0 : w75.cell? ⟨gb302, 0, none⟩ = some (.int .i64 a0_0) := (kC BK302.out 0).trans rfl; have hcz78_1 : w75.cell? ⟨gb302, 1, none⟩ = some (.int .i64 a0_1) := (kC BK302.out 1).trans rfl; have hfz78_0 := kF BK302.out 0; have hfz78_1 := kF BK302.out 1) | (go_at_call 51; (with_reducible refine (mapmakerref09_Turn.calls a1_0 a1_1 a2_0 a2_1 a0_0 a0_1 t306 _ A6.out).mono ?_); rintro e w79 ⟨rfl, hb⟩; replace BK302 := aM (kB (g := gb302) (o := .cells #[.int .i64 a0_0, .int .i64 a0_1] 33 (0, 0)) (kl BK302) hb); replace BK303 := aM (kB (g := gb303) (o := .cells #[.int .i64 a1_0, .int .i64 a1_1] 33 (0, 0)) (kl BK303) hb); replace BK304 := aM (kB (g := gb304) (o := .cells #[.int .i64 a2_0, .int .i64 a2_1] 33 (0, 0)) (kl BK304) hb); replace HB := aM (bS (bl) hb); (try clear hb); (try clear hb2); (try clear hk); (try clear hi); have hcz80_0 : w79.cell? ⟨gb302, 0, none⟩ = some (.int .i64 a0_0) := (kC BK302.out 0).trans rfl; have hcz80_1 : w79.cell? ⟨gb302, 1, none⟩ = some (.int .i64 a0_1) := (kC BK302.out 1).trans rfl; have hfz80_0 := kF BK302.out 0; have hfz80_1 := kF BK302.out 1; have hcz81_0 : w79.cell? ⟨gb303, 0, none⟩ = some (.int .i64 a1_0) := (kC BK303.out 0).trans rfl; have hcz81_1 : w79.cell? ⟨gb303, 1, none⟩ = some (.int .i64 a1_1) := (kC BK303.out 1).trans rfl; have hfz81_0 := kF BK303.out 0; have hfz81_1 := kF BK303.out 1; have hcz82_0 : w79.cell? ⟨gb304, 0, none⟩ = some (.int .i64 a2_0) := (kC BK304.out 0).trans rfl; have hcz82_1 : w79.cell? ⟨gb304, 1, none⟩ = some (.int .i64 a2_1) := (kC BK304.out 1).trans rfl; have hfz82_0 := kF BK304.out 0; have hfz82_1 := kF BK304.out 1))
    go_ret
    exact ⟨by first | rfl | (simp [errW_none, errW_some] <;> rfl) | (simp only [← hji8]; first | rfl | (simp [errW_none, errW_some] <;> rfl)) | (simp [*, errW_none, errW_some] <;> rfl), bl⟩
  ·rw [if_neg c7] at H
   have c7b0 : (t306 == 0) = false := beq_eq_false_iff_ne.mpr c7
   have c7b1 : (t306 != 0) = true := bne_iff_ne.mpr c7
   obtain rfl := Option.some.inj H
   go_enter Try.func52, Try.ntmps52
   go_wp2_with (first | ((with_reducible refine gate_dst (N := 3) rfl ?_); (try (refine gate_guard (by rfl) ?_; dsimp only)); refine box_event ?hg (N := 3) ?hd (cs := #[.int .i64 a0_0, .int .i64 a0_1]) (t := 33) ?hr ?_; (case hd => rfl); (case hg => rfl); (case hr => first | (go_simp; done) | (go_simp; rfl)); intro gb302 hg w83 hbox hb; have n0_ := aM (bS (bl) hb); have n1_ := aM (hbox); have n2_ := aM ((by rw [hg]; exact (below_size (bl)) : w.heap.size ≤ gb302)); have n3_ := aM ((by rw [hg]; exact (below_size (bl)) : w.heap.size ≤ gb302)); clear HB; have HB := n0_; have BK302 := n1_; have GW302 := n2_; have GE302 := n3_; clear n0_ n1_ n2_ n3_ hb hbox hg) | ((with_reducible refine gate_dst (N := 4) rfl ?_); (try (refine gate_guard (by rfl) ?_; dsimp only)); refine box_event ?hg (N := 4) ?hd (cs := #[.int .i64 a1_0, .int .i64 a1_1]) (t := 33) ?hr ?_; (case hd => rfl); (case hg => rfl); (case hr => first | (go_simp; done) | (go_simp; rfl)); intro gb303 hg w84 hbox hb; have n0_ := aM (kB (g := gb302) (o := .cells #[.int .i64 a0_0, .int .i64 a0_1] 33 (0, 0)) (kl BK302) hb); have n1_ := aM (bS (bl) hb); have n2_ := aM (hbox); have n3_ := aM ((by rw [hg]; exact (below_size (bl)) : w.heap.size ≤ gb303)); have n4_ := aM ((by rw [hg]; exact (below_size (bl)) : w.heap.size ≤ gb303)); have n5_ := aM ((by rw [hg]; exact Nat.ne_of_lt (blk_lt (g := gb302) (o := .cells #[.int .i64 a0_0, .int .i64 a0_1] 33 (0, 0)) (kl BK302)) : gb302 ≠ gb303)); have n6_ := aM ((by rw [hg]; exact Nat.ne_of_gt (blk_lt (g := gb302) (o := .cells #[.int .i64 a0_0, .int .i64 a0_1] 33 (0, 0)) (kl BK302)) : gb303 ≠ gb302)); clear BK302 HB; have BK302 := n0_; have HB := n1_; have BK303 := n2_; have GW303 := n3_; have GE303 := n4_; have NB302_303 := n5_; have NB303_302 := n6_; clear n0_ n1_ n2_ n3_ n4_ n5_ n6_ hb hbox hg) | ((with_reducible refine gate_dst (N := 5) rfl ?_); (try (refine gate_guard (by rfl) ?_; dsimp only)); refine box_event ?hg (N := 5) ?hd (cs := #[.int .i64 a2_0, .int .i64 a2_1]) (t := 33) ?hr ?_; (case hd => rfl); (case hg => rfl); (case hr => first | (go_simp; done) | (go_simp; rfl)); intro gb304 hg w85 hbox hb; have n0_ := aM (kB (g := gb302) (o := .cells #[.int .i64 a0_0, .int .i64 a0_1] 33 (0, 0)) (kl BK302) hb); have n1_ := aM (kB (g := gb303) (o := .cells #[.int .i64 a1_0, .int .i64 a1_1] 33 (0, 0)) (kl BK303) hb); have n2_ := aM (bS (bl) hb); have n3_ := aM (hbox); have n4_ := aM ((by rw [hg]; exact (below_size (bl)) : w.heap.size ≤ gb304)); have n5_ := aM ((by rw [hg]; exact (below_size (bl)) : w.heap.size ≤ gb304)); have n6_ := aM ((by rw [hg]; exact Nat.ne_of_lt (blk_lt (g := gb302) (o := .cells #[.int .i64 a0_0, .int .i64 a0_1] 33 (0, 0)) (kl BK302)) : gb302 ≠ gb304)); have n7_ := aM ((by rw [hg]; exact Nat.ne_of_gt (blk_lt (g := gb302) (o := .cells #[.int .i64 a0_0, .int .i64 a0_1] 33 (0, 0)) (kl BK302)) : gb304 ≠ gb302)); have n8_ := aM ((by rw [hg]; exact Nat.ne_of_lt (blk_lt (g := gb303) (o := .cells #[.int .i64 a1_0, .int .i64 a1_1] 33 (0, 0)) (kl BK303)) : gb303 ≠ gb304)); have n9_ := aM ((by rw [hg]; exact Nat.ne_of_gt (blk_lt (g := gb303) (o := .cells #[.int .i64 a1_0, .int .i64 a1_1] 33 (0, 0)) (kl BK303)) : gb304 ≠ gb303)); clear BK302 BK303 HB; have BK302 := n0_; have BK303 := n1_; have HB := n2_; have BK304 := n3_; have GW304 := n4_; have GE304 := n5_; have NB302_304 := n6_; have NB304_302 := n7_; have NB303_304 := n8_; have NB304_303 := n9_; clear n0_ n1_ n2_ n3_ n4_ n5_ n6_ n7_ n8_ n9_ hb hbox hg; have hnb86 := NB302_303.out; have hnc86 := NB303_302.out; have hnb87 := NB302_304.out; have hnc87 := NB304_302.out; have hcz88_0 : w85.cell? ⟨gb302, 0, none⟩ = some (.int .i64 a0_0) := (kC BK302.out 0).trans rfl; have hcz88_1 : w85.cell? ⟨gb302, 1, none⟩ = some (.int .i64 a0_1) := (kC BK302.out 1).trans rfl; have hfz88_0 := kF BK302.out 0; have hfz88_1 := kF BK302.out 1; have hnb89 := NB303_304.out; have hnc89 := NB304_303.out; have hcz90_0 : w85.cell? ⟨gb303, 0, none⟩ = some (.int .i64 a1_0) := (kC BK303.out 0).trans rfl; have hcz90_1 : w85.cell? ⟨gb303, 1, none⟩ = some (.int .i64 a1_1) := (kC BK303.out 1).trans rfl; have hfz90_0 := kF BK303.out 0; have hfz90_1 := kF BK303.out 1; have hcz91_0 : w85.cell? ⟨gb304, 0, none⟩ = some (.int .i64 a2_0) := (kC BK304.out 0).trans rfl; have hcz91_1 : w85.cell? ⟨gb304, 1, none⟩ = some (.int .i64 a2_1) := (kC BK304.out 1).trans rfl; have hfz91_0 := kF BK304.out 0; have hfz91_1 := kF BK304.out 1) | ((with_reducible refine gate_callee (f := 48) rfl ?_); refine goesL_ (some 10) rfl rfl Try.func48 (by kernel_rfl) rfl #[.agg #[.int .i64 a0_0, .int .i64 a0_1], .agg #[.int .i64 a1_0, .int .i64 a1_1], .agg #[.int .i64 a2_0, .int .i64 a2_1]] rfl (by (try simp only [List.map_toArray, List.map_cons, List.map_nil]); first | done | rfl | (simp only [List.length_drop, List.length_take]; rfl)) ?_; (with_reducible refine (mapmakerref09_three.calls a0_0 a0_1 a1_0 a1_1 a2_0 a2_1 true _ A4.out).mono ?_); rintro e w92 ⟨rfl, hb⟩; refine ⟨_, rfl, ?_⟩; have n0_ := aM (kB (g := gb302) (o := .cells #[.int .i64 a0_0, .int .i64 a0_1] 33 (0, 0)) (kl BK302) hb); have n1_ := aM (kB (g := gb303) (o := .cells #[.int .i64 a1_0, .int .i64 a1_1] 33 (0, 0)) (kl BK303) hb); have n2_ := aM (kB (g := gb304) (o := .cells #[.int .i64 a2_0, .int .i64 a2_1] 33 (0, 0)) (kl BK304) hb); have n3_ := aM (bS (bl) hb); clear BK302 BK303 BK304 HB; have BK302 := n0_; have BK303 := n1_; have BK304 := n2_; have HB := n3_; clear n0_ n1_ n2_ n3_; (try clear hb); (try clear hb2); (try clear hk); (try clear hi); have hcz93_0 : w92.cell? ⟨gb303, 0, none⟩ = some (.int .i64 a1_0) := (kC BK303.out 0).trans rfl; have hcz93_1 : w92.cell? ⟨gb303, 1, none⟩ = some (.int .i64 a1_1) := (kC BK303.out 1).trans rfl; have hfz93_0 := kF BK303.out 0; have hfz93_1 := kF BK303.out 1; have hcz94_0 : w92.cell? ⟨gb304, 0, none⟩ = some (.int .i64 a2_0) := (kC BK304.out 0).trans rfl; have hcz94_1 : w92.cell? ⟨gb304, 1, none⟩ = some (.int .i64 a2_1) := (kC BK304.out 1).trans rfl; have hfz94_0 := kF BK304.out 0; have hfz94_1 := kF BK304.out 1; have hcz95_0 : w92.cell? ⟨gb302, 0, none⟩ = some (.int .i64 a0_0) := (kC BK302.out 0).trans rfl; have hcz95_1 : w92.cell? ⟨gb302, 1, none⟩ = some (.int .i64 a0_1) := (kC BK302.out 1).trans rfl; have hfz95_0 := kF BK302.out 0; have hfz95_1 := kF BK302.out 1) | (go_at_call 51; (with_reducible refine (mapmakerref09_Turn.calls a1_0 a1_1 a2_0 a2_1 a0_0 a0_1 t306 _ A6.out).mono ?_); rintro e w96 ⟨rfl, hb⟩; replace BK302 := aM (kB (g := gb302) (o := .cells #[.int .i64 a0_0, .int .i64 a0_1] 33 (0, 0)) (kl BK302) hb); replace BK303 := aM (kB (g := gb303) (o := .cells #[.int .i64 a1_0, .int .i64 a1_1] 33 (0, 0)) (kl BK303) hb); replace BK304 := aM (kB (g := gb304) (o := .cells #[.int .i64 a2_0, .int .i64 a2_1] 33 (0, 0)) (kl BK304) hb); replace HB := aM (bS (bl) hb); (try clear hb); (try clear hb2); (try clear hk); (try clear hi)))
   go_ret
   exact ⟨by first | rfl | (simp [errW_none, errW_some] <;> rfl) | (simp [*, errW_none, errW_some] <;> rfl), bl⟩
 ·replace c5 := Bool.eq_false_iff.mpr c5
  subst c5
  have H1 : (some false) = some r := by rw [if_neg (show ¬ (false = true) by decide)] at H; exact H
  clear H
  have H := H1
  clear H1
  obtain rfl := Option.some.inj H
  go_enter Try.func52, Try.ntmps52
  go_wp2_with (first | ((with_reducible refine gate_dst (N := 3) rfl ?_); (try (refine gate_guard (by rfl) ?_; dsimp only)); refine box_event ?hg (N := 3) ?hd (cs := #[.int .i64 a0_0, .int .i64 a0_1]) (t := 33) ?hr ?_; (case hd => rfl); (case hg => rfl); (case hr => first | (go_simp; done) | (go_simp; rfl)); intro gb302 hg w97 hbox hb; have n0_ := aM (bS (bl) hb); have n1_ := aM (hbox); have n2_ := aM ((by rw [hg]; exact (below_size (bl)) : w.heap.size ≤ gb302)); have n3_ := aM ((by rw [hg]; exact (below_size (bl)) : w.heap.size ≤ gb302)); clear HB; have HB := n0_; have BK302 := n1_; have GW302 := n2_; have GE302 := n3_; clear n0_ n1_ n2_ n3_ hb hbox hg) | ((with_reducible refine gate_dst (N := 4) rfl ?_); (try (refine gate_guard (by rfl) ?_; dsimp only)); refine box_event ?hg (N := 4) ?hd (cs := #[.int .i64 a1_0, .int .i64 a1_1]) (t := 33) ?hr ?_; (case hd => rfl); (case hg => rfl); (case hr => first | (go_simp; done) | (go_simp; rfl)); intro gb303 hg w98 hbox hb; have n0_ := aM (kB (g := gb302) (o := .cells #[.int .i64 a0_0, .int .i64 a0_1] 33 (0, 0)) (kl BK302) hb); have n1_ := aM (bS (bl) hb); have n2_ := aM (hbox); have n3_ := aM ((by rw [hg]; exact (below_size (bl)) : w.heap.size ≤ gb303)); have n4_ := aM ((by rw [hg]; exact (below_size (bl)) : w.heap.size ≤ gb303)); have n5_ := aM ((by rw [hg]; exact Nat.ne_of_lt (blk_lt (g := gb302) (o := .cells #[.int .i64 a0_0, .int .i64 a0_1] 33 (0, 0)) (kl BK302)) : gb302 ≠ gb303)); have n6_ := aM ((by rw [hg]; exact Nat.ne_of_gt (blk_lt (g := gb302) (o := .cells #[.int .i64 a0_0, .int .i64 a0_1] 33 (0, 0)) (kl BK302)) : gb303 ≠ gb302)); clear BK302 HB; have BK302 := n0_; have HB := n1_; have BK303 := n2_; have GW303 := n3_; have GE303 := n4_; have NB302_303 := n5_; have NB303_302 := n6_; clear n0_ n1_ n2_ n3_ n4_ n5_ n6_ hb hbox hg) | ((with_reducible refine gate_dst (N := 5) rfl ?_); (try (refine gate_guard (by rfl) ?_; dsimp only)); refine box_event ?hg (N := 5) ?hd (cs := #[.int .i64 a2_0, .int .i64 a2_1]) (t := 33) ?hr ?_; (case hd => rfl); (case hg => rfl); (case hr => first | (go_simp; done) | (go_simp; rfl)); intro gb304 hg w99 hbox hb; have n0_ := aM (kB (g := gb302) (o := .cells #[.int .i64 a0_0, .int .i64 a0_1] 33 (0, 0)) (kl BK302) hb); have n1_ := aM (kB (g := gb303) (o := .cells #[.int .i64 a1_0, .int .i64 a1_1] 33 (0, 0)) (kl BK303) hb); have n2_ := aM (bS (bl) hb); have n3_ := aM (hbox); have n4_ := aM ((by rw [hg]; exact (below_size (bl)) : w.heap.size ≤ gb304)); have n5_ := aM ((by rw [hg]; exact (below_size (bl)) : w.heap.size ≤ gb304)); have n6_ := aM ((by rw [hg]; exact Nat.ne_of_lt (blk_lt (g := gb302) (o := .cells #[.int .i64 a0_0, .int .i64 a0_1] 33 (0, 0)) (kl BK302)) : gb302 ≠ gb304)); have n7_ := aM ((by rw [hg]; exact Nat.ne_of_gt (blk_lt (g := gb302) (o := .cells #[.int .i64 a0_0, .int .i64 a0_1] 33 (0, 0)) (kl BK302)) : gb304 ≠ gb302)); have n8_ := aM ((by rw [hg]; exact Nat.ne_of_lt (blk_lt (g := gb303) (o := .cells #[.int .i64 a1_0, .int .i64 a1_1] 33 (0, 0)) (kl BK303)) : gb303 ≠ gb304)); have n9_ := aM ((by rw [hg]; exact Nat.ne_of_gt (blk_lt (g := gb303) (o := .cells #[.int .i64 a1_0, .int .i64 a1_1] 33 (0, 0)) (kl BK303)) : gb304 ≠ gb303)); clear BK302 BK303 HB; have BK302 := n0_; have BK303 := n1_; have HB := n2_; have BK304 := n3_; have GW304 := n4_; have GE304 := n5_; have NB302_304 := n6_; have NB304_302 := n7_; have NB303_304 := n8_; have NB304_303 := n9_; clear n0_ n1_ n2_ n3_ n4_ n5_ n6_ n7_ n8_ n9_ hb hbox hg; have hnb100 := NB302_303.out; have hnc100 := NB303_302.out; have hnb101 := NB302_304.out; have hnc101 := NB304_302.out; have hcz102_0 : w99.cell? ⟨gb302, 0, none⟩ = some (.int .i64 a0_0) := (kC BK302.out 0).trans rfl; have hcz102_1 : w99.cell? ⟨gb302, 1, none⟩ = some (.int .i64 a0_1) := (kC BK302.out 1).trans rfl; have hfz102_0 := kF BK302.out 0; have hfz102_1 := kF BK302.out 1; have hnb103 := NB303_304.out; have hnc103 := NB304_303.out; have hcz104_0 : w99.cell? ⟨gb303, 0, none⟩ = some (.int .i64 a1_0) := (kC BK303.out 0).trans rfl; have hcz104_1 : w99.cell? ⟨gb303, 1, none⟩ = some (.int .i64 a1_1) := (kC BK303.out 1).trans rfl; have hfz104_0 := kF BK303.out 0; have hfz104_1 := kF BK303.out 1; have hcz105_0 : w99.cell? ⟨gb304, 0, none⟩ = some (.int .i64 a2_0) := (kC BK304.out 0).trans rfl; have hcz105_1 : w99.cell? ⟨gb304, 1, none⟩ = some (.int .i64 a2_1) := (kC BK304.out 1).trans rfl; have hfz105_0 := kF BK304.out 0; have hfz105_1 := kF BK304.out 1) | ((with_reducible refine gate_callee (f := 48) rfl ?_); refine goesL_ (some 10) rfl rfl Try.func48 (by kernel_rfl) rfl #[.agg #[.int .i64 a0_0, .int .i64 a0_1], .agg #[.int .i64 a1_0, .int .i64 a1_1], .agg #[.int .i64 a2_0, .int .i64 a2_1]] rfl (by (try simp only [List.map_toArray, List.map_cons, List.map_nil]); first | done | rfl | (simp only [List.length_drop, List.length_take]; rfl)) ?_; (with_reducible refine (mapmakerref09_three.calls a0_0 a0_1 a1_0 a1_1 a2_0 a2_1 false _ A4.out).mono ?_); rintro e w106 ⟨rfl, hb⟩; refine ⟨_, rfl, ?_⟩; have n0_ := aM (kB (g := gb302) (o := .cells #[.int .i64 a0_0, .int .i64 a0_1] 33 (0, 0)) (kl BK302) hb); have n1_ := aM (kB (g := gb303) (o := .cells #[.int .i64 a1_0, .int .i64 a1_1] 33 (0, 0)) (kl BK303) hb); have n2_ := aM (kB (g := gb304) (o := .cells #[.int .i64 a2_0, .int .i64 a2_1] 33 (0, 0)) (kl BK304) hb); have n3_ := aM (bS (bl) hb); clear BK302 BK303 BK304 HB; have BK302 := n0_; have BK303 := n1_; have BK304 := n2_; have HB := n3_; clear n0_ n1_ n2_ n3_; (try clear hb); (try clear hb2); (try clear hk); (try clear hi)))
  go_ret
  exact ⟨by first | rfl | (simp [errW_none, errW_some] <;> rfl) | (simp [*, errW_none, errW_some] <;> rfl), bl⟩
end Go.Proofs.Ytmejeiddlhjjmaa.PNodingCrosses
