-- out of a driver of this session's prover over the kit's print: Lean checks it
import Derived.Test.YtmejeiddlhjjmaaPNodingCrossesx0
import Derived.Test.YtmejeiddlhjjmaaPNodingCrossesx3
import Derived.Test.YtmejeiddlhjjmaaPNodingCrossesx4
import Derived.Test.YtmejeiddlhjjmaaPNodingCrossesx11
import Derived.Test.YtmejeiddlhjjmaaPNodingCrossesx12
import Derived.Test.YtmejeiddlhjjmaaPNodingCrossesx15
import Derived.Test.YtmejeiddlhjjmaaPNodingCrossesx16
namespace Go.Proofs.Ytmejeiddlhjjmaa.PNodingCrosses
open Go.Proofs.YtmejeiddlhjjmaaG Go.Shelf Go.Lib
open Go.RowKit Go.Proofs.YtmejeiddlhjjmaaW.PrintWords Go.Proofs.YtmejeiddlhjjmaaW.PrintLast Go.Proofs.YtmejeiddlhjjmaaW.PrintMore
attribute [local go_sem] max2_int min2_int max_two min_two max_three min_three max_four min_four   -- for this text's walks alone
set_option linter.unusedVariables false
set_option linter.unusedSimpArgs false
attribute [local go_sem high] eqA36
mutual
def mapmakerref20_Crossings.l0 : Nat → List (S35) → List (S36) → Int → Option ((List (S36)))
 | 0, _, _, _ => none
 | k + 1, x3, x4, x5 => if x5 < (x3.length : Int) then (mapmakerref20_Crossings.l1 k x3 x4 x5 (wrap64 (x5 + 1))) else (some x4)
def mapmakerref20_Crossings.l1 : Nat → List (S35) → List (S36) → Int → Int → Option ((List (S36)))
 | 0, _, _, _, _ => none
 | k + 1, x3, x4, x5, x6 => if x6 < (x3.length : Int) then (if 0 ≤ x5 then (if x5 < (x3.length : Int) then (if 0 ≤ x6 then ((mapmakerref09_Relate.f k ((rd_T35 x3 x5).f0.f0) ((rd_T35 x3 x5).f0.f1) ((rd_T35 x3 x5).f1.f0) ((rd_T35 x3 x5).f1.f1) ((rd_T35 x3 x6).f0.f0) ((rd_T35 x3 x6).f0.f1) ((rd_T35 x3 x6).f1.f0) ((rd_T35 x3 x6).f1.f1)).bind fun t337 => (if t337 ≥ 2 then (if x4.length < 2199023255552 then (mapmakerref20_Crossings.l1 k x3 (x4 ++ [(⟨(⟨(⟨(rd_T35 x3 x5).f0.f0, (rd_T35 x3 x5).f0.f1⟩ : S33), (⟨(rd_T35 x3 x5).f1.f0, (rd_T35 x3 x5).f1.f1⟩ : S33)⟩ : S35), (⟨(⟨(rd_T35 x3 x6).f0.f0, (rd_T35 x3 x6).f0.f1⟩ : S33), (⟨(rd_T35 x3 x6).f1.f0, (rd_T35 x3 x6).f1.f1⟩ : S33)⟩ : S35)⟩ : S36)]) x5 (wrap64 (x6 + 1))) else (none)) else (mapmakerref20_Crossings.l1 k x3 x4 x5 (wrap64 (x6 + 1))))) else (none)) else (none)) else (none)) else (mapmakerref20_Crossings.l0 k x3 x4 (wrap64 (x5 + 1)))
end
def mapmakerref20_Crossings.f (k : Nat) (l0 : List (S35)) : Option ((List (S36))) := (mapmakerref20_Unique.f k l0).bind fun t332 => (mapmakerref20_Crossings.l0 k t332 ([] : List (S36)) 0)
theorem mapmakerref20_Crossings.mono_l : ∀ k, (∀ y0 y1 y2, LeO (mapmakerref20_Crossings.l0 k y0 y1 y2) (mapmakerref20_Crossings.l0 (k + 1) y0 y1 y2)) ∧ (∀ y0 y1 y2 y3, LeO (mapmakerref20_Crossings.l1 k y0 y1 y2 y3) (mapmakerref20_Crossings.l1 (k + 1) y0 y1 y2 y3))
 | 0 => ⟨fun _ _ _ r h => by simp [mapmakerref20_Crossings.l0] at h, fun _ _ _ _ r h => by simp [mapmakerref20_Crossings.l1] at h⟩
 | k + 1 => by
  obtain ⟨ih0, ih1⟩ := mapmakerref20_Crossings.mono_l k
  refine ⟨?_, ?_⟩
  ·intro y0 y1 y2
   unfold mapmakerref20_Crossings.l0
   repeat' first
   | (with_reducible exact ih0 _ _ _)
   | (with_reducible exact ih1 _ _ _ _)
   | (with_reducible exact mapmakerref09_Relate.mono _ _ _ _ _ _ _ _ _)
   | (with_reducible exact mapmakerref20_Unique.mono _ _)
   | (with_reducible exact LeO.refl _)
   | (with_reducible exact LeO.none _)
   | (with_reducible refine LeO.ite ?_ ?_)
   | (with_reducible refine LeO.bind ?_ (fun _ => ?_))
   | exact ih0 _ _ _
   | exact ih1 _ _ _ _
   | exact mapmakerref09_Relate.mono _ _ _ _ _ _ _ _ _
   | exact mapmakerref20_Unique.mono _ _
   | exact LeO.none _
   | refine LeO.ite ?_ ?_
   | refine LeO.bind ?_ (fun _ => ?_)
  ·intro y0 y1 y2 y3
   unfold mapmakerref20_Crossings.l1
   repeat' first
   | (with_reducible exact ih0 _ _ _)
   | (with_reducible exact ih1 _ _ _ _)
   | (with_reducible exact mapmakerref09_Relate.mono _ _ _ _ _ _ _ _ _)
   | (with_reducible exact mapmakerref20_Unique.mono _ _)
   | (with_reducible exact LeO.refl _)
   | (with_reducible exact LeO.none _)
   | (with_reducible refine LeO.ite ?_ ?_)
   | (with_reducible refine LeO.bind ?_ (fun _ => ?_))
   | exact ih0 _ _ _
   | exact ih1 _ _ _ _
   | exact mapmakerref09_Relate.mono _ _ _ _ _ _ _ _ _
   | exact mapmakerref20_Unique.mono _ _
   | exact LeO.none _
   | refine LeO.ite ?_ ?_
   | refine LeO.bind ?_ (fun _ => ?_)
theorem mapmakerref20_Crossings.mono : ∀ a0 k, LeO (mapmakerref20_Crossings.f k a0) (mapmakerref20_Crossings.f (k + 1) a0) := by
 intro a0 k
 obtain ⟨ih0, ih1⟩ := mapmakerref20_Crossings.mono_l k
 unfold mapmakerref20_Crossings.f
 repeat' first
   | (with_reducible exact ih0 _ _ _)
   | (with_reducible exact ih1 _ _ _ _)
   | (with_reducible exact mapmakerref09_Relate.mono _ _ _ _ _ _ _ _ _)
   | (with_reducible exact mapmakerref20_Unique.mono _ _)
   | (with_reducible exact LeO.refl _)
   | (with_reducible exact LeO.none _)
   | (with_reducible refine LeO.ite ?_ ?_)
   | (with_reducible refine LeO.bind ?_ (fun _ => ?_))
   | exact ih0 _ _ _
   | exact ih1 _ _ _ _
   | exact mapmakerref09_Relate.mono _ _ _ _ _ _ _ _ _
   | exact mapmakerref20_Unique.mono _ _
   | exact LeO.none _
   | refine LeO.ite ?_ ?_
   | refine LeO.bind ?_ (fun _ => ?_)
def mapmakerref20_Crossings.T9 : Bool × List (List Nat × List Nat) := (true, [([], []), ([], []), ([0, 1], [0, 1]), ([2], [2]), ([], []), ([], []), ([4, 5], [4, 5]), ([6], [6]), ([3, 7], [3, 7]), ([8], [8])])
def mapmakerref20_Crossings.B9 : List Nat := [0, 0, 3, 7, 0, 0, 48, 112, 255, 511]
theorem mapmakerref20_Crossings.tab9 : rtab .any (opsOf Try.f24 9) = mapmakerref20_Crossings.T9 := by kernel_rfl
theorem mapmakerref20_Crossings.bits9 : waitsOk mapmakerref20_Crossings.T9.2 mapmakerref20_Crossings.B9 = true := by kernel_rfl
def mapmakerref20_Crossings.T10 : Bool × List (List Nat × List Nat) := (true, [([], []), ([], []), ([], []), ([1, 2], [1, 2]), ([3], [3]), ([], []), ([], []), ([5, 6], [5, 6]), ([7], [7]), ([4, 8], [4, 8]), ([9], [9]), ([0, 10], [0, 10]), ([11, 11, 0, 1, 2, 3, 4, 5, 6, 7, 8, 9, 10, 11], [0, 11])])
def mapmakerref20_Crossings.B10 : List Nat := [0, 0, 0, 6, 14, 0, 0, 96, 224, 510, 1022, 2047, 4095]
theorem mapmakerref20_Crossings.tab10 : rtab .any (opsOf Try.f24 10) = mapmakerref20_Crossings.T10 := by kernel_rfl
theorem mapmakerref20_Crossings.bits10 : waitsOk mapmakerref20_Crossings.T10.2 mapmakerref20_Crossings.B10 = true := by kernel_rfl
set_option maxHeartbeats 8000000 in
set_option maxRecDepth 100000 in
theorem mapmakerref20_Crossings.calls (k : Nat) (A0 : Option Addr) (c0 : Nat) (l0 : List (S35)) (r : List (S36)) (w : World) (hr0 : Kd.C k35 w A0 l0.length l0) (hc0 : l0.length ≤ c0) (h : mapmakerref20_Crossings.f k l0 = some r) :
  Calls Try.prog 24 #[.slice A0 l0.length c0] w fun e w' => ∃ v0_ : Value, e = .returned (v0_) ∧ Kd.R k36 36 w' w.heap.size (fun _ => True) v0_ r ∧ Below w.heap.size w w' := by
 have hu35 := Try.underlying35
 have hu36 := Try.underlying36
 have HR0 := aM hr0
 have HC0 := aM hc0
 clear hr0 hc0
 have HB := aM (Below.refl w.heap.size w)
 have H : ((mapmakerref20_Unique.f k l0).bind fun t332 => (mapmakerref20_Crossings.l0 k t332 ([] : List (S36)) 0)) = some r := h
 clear h
 replace H := Option.bind_eq_some_iff.mp H
 obtain ⟨t332, A20, H⟩ := H
 try dsimp only at H
 have A2 := aM A20
 clear A20
 have H' := aM H
 clear H
 go_enter Try.func24, Try.ntmps24
 go_wp2_with (first | ((with_reducible refine gate_callee (f := 16) rfl ?_); refine goesL_ (some 8) rfl rfl Try.func16 (by kernel_rfl) rfl #[.slice A0 l0.length c0] rfl (by (try simp only [List.map_toArray, List.map_cons, List.map_nil]); first | done | rfl | (simp only [List.length_drop, List.length_take]; rfl)) ?_; (with_reducible refine (mapmakerref20_Unique.calls k _ _ l0 t332 _ ?side1 ?side2 A2.out).mono ?_); (case side1 => repeat (first | exact HR0.out | (with_reducible refine cA ?_ _) | (with_reducible refine cN ?_ _) | (with_reducible refine cD ?_))); (case side2 => exact HC0.out); rintro e w3 ⟨v333, rfl, ho0, hb⟩; refine ⟨_, rfl, ?_⟩; have HO334 := aM (Kd.R_lower ho0 (below_size (bl))); replace HB := aM (bS (bl) hb); (try clear hb); (try clear hb2); (try clear hk); (try clear hi); (try clear ho0)))
 go_loopg [4, 5] k (fun kq v4 v5 w' => ∃ (x4_1 : List (S36)) (x5_1 : Int), v5 = .int .i64 x5_1 ∧ Aside0 (mapmakerref20_Crossings.l0 kq t332 x4_1 x5_1 = some r) ∧ Aside0 (kq ≤ k) ∧ Aside0 (Kd.R k35 35 w' w.heap.size (fun _ => True) v333 t332) ∧ Aside0 (Kd.R k36 36 w' w.heap.size (fun _ => True) v4 x4_1) ∧ Aside0 (Below w.heap.size w w'))
 case atStart => exact ⟨(([] : List (S36))), (0), (by first | rfl | (simp; done) | (simp [*]; done)), H', ⟨Nat.le_refl _⟩, ⟨by (with_reducible repeat (first | apply rA | apply rN | apply rD)); exact HO334.out⟩, ⟨by first | exact Kd.R_nil _ _ _ _ _ | exact Kd.N_nil _ _ _ _ _ | exact Kd.V_nil _ _ _ _ _ | exact Kd.Q_nil _ _ _ _ _ | exact Kd.S_nil _ _ _ _ _⟩, ⟨bl⟩⟩
 case round =>
  clear H'
  try clear c1
  try clear c2
  try clear p2
  obtain ⟨x4_1, x5_1, rfl, HA, HK1, HO_3, HO_4, HB⟩ := hrel
  cases gk with
  | zero => exact absurd HA.out (by simp [mapmakerref20_Crossings.l0])
  | succ k1 =>
   have H := HA.out
   clear HA
   simp only [mapmakerref20_Crossings.l0] at H
   by_cases c4 : x5_1 < (t332.length : Int)
   ·rw [if_pos c4] at H
    have c4b0 : decide (x5_1 < (t332.length : Int)) = true := decide_eq_true c4
    clear c4
    have H' := aM H
    clear H
    obtain ⟨Ao5, co5, eo5⟩ := Kd.R_slice HO_3.out
    subst eo5
    go_wp2
    go_loopg [4, 6] k1 (fun kq v4 v6 w' => ∃ (x4_2 : List (S36)) (x6_2 : Int), v6 = .int .i64 x6_2 ∧ Aside0 (mapmakerref20_Crossings.l1 kq t332 x4_2 x5_1 x6_2 = some r) ∧ Aside0 (kq ≤ k1) ∧ Aside0 (Kd.R k35 35 w' w.heap.size (fun _ => True) (.slice Ao5 t332.length co5) t332) ∧ Aside0 (Kd.R k36 36 w' w.heap.size (fun _ => True) v4 x4_2) ∧ Aside0 (Below w.heap.size w w'))
    case atStart => exact ⟨(x4_1), (wrap64 (x5_1 + 1)), (by first | rfl | (simp; done) | (simp [*]; done)), H', ⟨Nat.le_refl _⟩, ⟨by (with_reducible repeat (first | apply rA | apply rN | apply rD)); exact HO_3.out⟩, ⟨by (with_reducible repeat (first | apply rA | apply rN | apply rD)); exact HO_4.out⟩, ⟨bl⟩⟩
    case round =>
     clear H'
     try clear c1
     try clear c2
     try clear p2
     try clear c4
     try clear c4b0
     try clear p2
     obtain ⟨x4_2, x6_2, rfl, HA, HK2, HO_3, HO_4, HB⟩ := hrel
     cases gk with
     | zero => exact absurd HA.out (by simp [mapmakerref20_Crossings.l1])
     | succ k2 =>
      have H := HA.out
      clear HA
      simp only [mapmakerref20_Crossings.l1] at H
      by_cases c6 : x6_2 < (t332.length : Int)
      ·rw [if_pos c6] at H
       have c6b0 : decide (x6_2 < (t332.length : Int)) = true := decide_eq_true c6
       clear c6
       by_cases c7 : 0 ≤ x5_1
       ·rw [if_pos c7] at H
        have c7b0 : decide (0 ≤ x5_1) = true := decide_eq_true c7
        clear c7
        by_cases c8 : x5_1 < (t332.length : Int)
        ·rw [if_pos c8] at H
         have c8b0 : decide (x5_1 < (t332.length : Int)) = true := decide_eq_true c8
         clear c8
         by_cases c9 : 0 ≤ x6_2
         ·rw [if_pos c9] at H
          have c9b0 : decide (0 ≤ x6_2) = true := decide_eq_true c9
          clear c9
          replace H := Option.bind_eq_some_iff.mp H
          obtain ⟨t337, A100, H⟩ := H
          try dsimp only at H
          have A10 := aM A100
          clear A100
          by_cases c11 : t337 ≥ 2
          ·rw [if_pos c11] at H
           have c11b0 : decide (2 ≤ t337) = true := decide_eq_true c11
           clear c11
           by_cases c12 : x4_2.length < 2199023255552
           ·rw [if_pos c12] at H
            have LMc12 := aM c12
            clear c12
            obtain ⟨y340, hy340⟩ : ∃ y_ : List (S36), y_ = (x4_2 ++ [(⟨(⟨(⟨(rd_T35 t332 x5_1).f0.f0, (rd_T35 t332 x5_1).f0.f1⟩ : S33), (⟨(rd_T35 t332 x5_1).f1.f0, (rd_T35 t332 x5_1).f1.f1⟩ : S33)⟩ : S35), (⟨(⟨(rd_T35 t332 x6_2).f0.f0, (rd_T35 t332 x6_2).f0.f1⟩ : S33), (⟨(rd_T35 t332 x6_2).f1.f0, (rd_T35 t332 x6_2).f1.f1⟩ : S33)⟩ : S35)⟩ : S36)]) := ⟨_, rfl⟩
            replace H : (mapmakerref20_Crossings.l1 k2 t332 y340 x5_1 (wrap64 (x6_2 + 1))) = some r := by first | (rw [hy340]; with_reducible exact H) | (have H2_ := (Option.bind_some _ _).symm.trans H; rw [hy340]; with_reducible exact H2_) | (have H2_ := (Option.bind_some _ _).symm.trans H; with_reducible exact H2_) | with_reducible exact H | (rw [hy340]; exact H) | exact H
            have Ny340 := aM hy340
            clear hy340
            have H' := aM H
            clear H
            try go_wp2
            replace HO_3 := aM (rD HO_3.out)
            replace HO_4 := aM (rD HO_4.out)
            replace HB := aM (bD HB.out)
            have p335 : 0 ≤ (x5_1 : Int) := of_decide_eq_true (by first | (with_reducible assumption) | assumption)
            have q335 : x5_1 < (t332.length : Int) := of_decide_eq_true (by first | (with_reducible assumption) | assumption)
            obtain ⟨ad335, e335, hx335_0, hx335_1, hx335_2, hx335_3⟩ := at_T35 (rR HO_3.out).2.2 x5_1 p335 q335
            cases e335
            replace p335 := eq_true p335
            replace q335 := eq_true q335
            have p336 : 0 ≤ (x6_2 : Int) := of_decide_eq_true (by first | (with_reducible assumption) | assumption)
            have q336 : x6_2 < (t332.length : Int) := of_decide_eq_true (by first | (with_reducible assumption) | assumption)
            obtain ⟨ad336, e336, hx336_0, hx336_1, hx336_2, hx336_3⟩ := at_T35 (rR HO_3.out).2.2 x6_2 p336 q336
            obtain rfl : ad335 = ad336 := (by injection e336)
            replace p336 := eq_true p336
            replace q336 := eq_true q336
            refine start_ (n := 10) (S := fun w' => w'.cell? (ad335.add ((x5_1).toNat * 4)) = some (.int .i64 ((rd_T35 t332 x5_1).f0.f0)) ∧ w'.cell? ⟨(ad335.add ((x5_1).toNat * 4)).block, (ad335.add ((x5_1).toNat * 4)).off + 1, none⟩ = some (.int .i64 ((rd_T35 t332 x5_1).f0.f1)) ∧ w'.cell? ⟨(ad335.add ((x5_1).toNat * 4)).block, (ad335.add ((x5_1).toNat * 4)).off + 2, none⟩ = some (.int .i64 ((rd_T35 t332 x5_1).f1.f0)) ∧ w'.cell? ⟨(ad335.add ((x5_1).toNat * 4)).block, (ad335.add ((x5_1).toNat * 4)).off + 3, none⟩ = some (.int .i64 ((rd_T35 t332 x5_1).f1.f1)) ∧ w'.cell? (ad335.add ((x6_2).toNat * 4)) = some (.int .i64 ((rd_T35 t332 x6_2).f0.f0)) ∧ w'.cell? ⟨(ad335.add ((x6_2).toNat * 4)).block, (ad335.add ((x6_2).toNat * 4)).off + 1, none⟩ = some (.int .i64 ((rd_T35 t332 x6_2).f0.f1)) ∧ w'.cell? ⟨(ad335.add ((x6_2).toNat * 4)).block, (ad335.add ((x6_2).toNat * 4)).off + 2, none⟩ = some (.int .i64 ((rd_T35 t332 x6_2).f1.f0)) ∧ w'.cell? ⟨(ad335.add ((x6_2).toNat * 4)).block, (ad335.add ((x6_2).toNat * 4)).off + 3, none⟩ = some (.int .i64 ((rd_T35 t332 x6_2).f1.f1))) (ds := []) #[false, false, false, false, false, false, false, false, false, false] (by kernel_rfl) rfl rfl ⟨hx335_0, hx335_1, hx335_2, hx335_3, hx336_0, hx336_1, hx336_2, hx336_3⟩ (fun hHeld => ?_); refine with_tabW mapmakerref20_Crossings.tab9 mapmakerref20_Crossings.bits9 (fun HT_ HW_ => ?_)
            generalize wr.drew = w13 at HO_3 HO_4 HB hx335_0 hx335_1 hx335_2 hx335_3 hx336_0 hx336_1 hx336_2 hx336_3 hHeld ⊢
            refine pure_ (i := 0) (N := some 23) (v := ?_) (a' := ?_) (ba 10 1) rfl rfl (any_of HT_.out (by kernel_rfl)) (fun _ _ _ h => h) (Or.inl ⟨by rfl, ?_⟩) ?_ ?_
            rotate_left
            ·intro w'
             go_simp
             with_reducible rfl
            rotate_left
            ·simp only [Act.put, sA, sB, sC, i64_w, i32_w]
             rfl
            refine pure_ (i := 1) (N := some 24) (v := ?_) (a' := ?_) (ba 10 3) rfl rfl (any_of HT_.out (by kernel_rfl)) (fun _ _ _ h => h) (Or.inl ⟨by rfl, ?_⟩) ?_ ?_
            rotate_left
            ·intro w'
             go_simp
             with_reducible rfl
            rotate_left
            ·simp only [Act.put, sA, sB, sC, i64_w, i32_w]
             rfl
            refine pure_ (i := 2) (N := some 25) (v := ?_) (a' := ?_) (ba 10 7) rfl rfl (any_of HT_.out (by kernel_rfl)) (fun _ _ _ h => h) (Or.inl ⟨by rfl, ?_⟩) ?_ ?_
            rotate_left
            ·intro w'
             go_simp
             with_reducible rfl
            rotate_left
            ·simp only [Act.put, sA, sB, sC, i64_w, i32_w]
             rfl
            refine pure_ (i := 4) (N := some 27) (v := ?_) (a' := ?_) (ba 10 23) rfl rfl (any_of HT_.out (by kernel_rfl)) (fun _ _ _ h => h) (Or.inl ⟨by rfl, ?_⟩) ?_ ?_
            rotate_left
            ·intro w'
             go_simp
             with_reducible rfl
            rotate_left
            ·simp only [Act.put, sA, sB, sC, i64_w, i32_w]
             rfl
            refine pure_ (i := 5) (N := some 28) (v := ?_) (a' := ?_) (ba 10 55) rfl rfl (any_of HT_.out (by kernel_rfl)) (fun _ _ _ h => h) (Or.inl ⟨by rfl, ?_⟩) ?_ ?_
            rotate_left
            ·intro w'
             go_simp
             with_reducible rfl
            rotate_left
            ·simp only [Act.put, sA, sB, sC, i64_w, i32_w]
             rfl
            refine pure_ (i := 6) (N := some 29) (v := ?_) (a' := ?_) (ba 10 119) rfl rfl (any_of HT_.out (by kernel_rfl)) (fun _ _ _ h => h) (Or.inl ⟨by rfl, ?_⟩) ?_ ?_
            rotate_left
            ·intro w'
             go_simp
             with_reducible rfl
            rotate_left
            ·simp only [Act.put, sA, sB, sC, i64_w, i32_w]
             rfl
            refine take_ (i := 3) (N := some 26) (v := ?_) (a' := ?_) (ba 10 127) rfl rfl (take_ofW HT_.out HW_.out (by kernel_rfl)) (fun _ _ _ h => h) (Or.inl ⟨by rfl, ?_⟩) hHeld ?_ ?_
            rotate_left
            ·rintro w' ⟨s0, s1, s2, s3, s4, s5, s6, s7⟩
             go_simp
             with_reducible rfl
            rotate_left
            ·simp only [Act.put, sA, sB, sC, i64_w, i32_w]
             rfl
            refine take_ (i := 7) (N := some 30) (v := ?_) (a' := ?_) (ba 10 255) rfl rfl (take_ofW HT_.out HW_.out (by kernel_rfl)) (fun _ _ _ h => h) (Or.inl ⟨by rfl, ?_⟩) hHeld ?_ ?_
            rotate_left
            ·rintro w' ⟨s0, s1, s2, s3, s4, s5, s6, s7⟩
             go_simp
             with_reducible rfl
            rotate_left
            ·simp only [Act.put, sA, sB, sC, i64_w, i32_w]
             rfl
            refine one_ (i := 8) (N := some 31) (ba 10 511) rfl rfl (one_of HT_.out (by kernel_rfl)) (by decide) (fun K hK => ?_)
            refine goes_ Try.func27 (by kernel_rfl) rfl #[.agg #[.int .i64 ((rd_T35 t332 x5_1).f0.f0), .int .i64 ((rd_T35 t332 x5_1).f0.f1), .int .i64 ((rd_T35 t332 x5_1).f1.f0), .int .i64 ((rd_T35 t332 x5_1).f1.f1)], .agg #[.int .i64 ((rd_T35 t332 x6_2).f0.f0), .int .i64 ((rd_T35 t332 x6_2).f0.f1), .int .i64 ((rd_T35 t332 x6_2).f1.f0), .int .i64 ((rd_T35 t332 x6_2).f1.f1)]] (by rfl) rfl rfl (by (try simp only [List.map_toArray, List.map_cons, List.map_nil]); first | done | rfl | (simp only [List.length_drop, List.length_take]; rfl)) ?_
            with_reducible refine (mapmakerref09_Relate.calls k2 ((rd_T35 t332 x5_1).f0.f0) ((rd_T35 t332 x5_1).f0.f1) ((rd_T35 t332 x5_1).f1.f0) ((rd_T35 t332 x5_1).f1.f1) ((rd_T35 t332 x6_2).f0.f0) ((rd_T35 t332 x6_2).f0.f1) ((rd_T35 t332 x6_2).f1.f0) ((rd_T35 t332 x6_2).f1.f1) t337 _ A10.out).mono ?_
            rintro e w14 ⟨rfl, hb⟩
            have HS0_ := (hb.cell (World.block_lt_of_cell? _ _ (hHeld.1))).trans (hHeld.1)
            have HS1_ := (hb.cell (World.block_lt_of_cell? _ _ (hHeld.2.1))).trans (hHeld.2.1)
            have HS2_ := (hb.cell (World.block_lt_of_cell? _ _ (hHeld.2.2.1))).trans (hHeld.2.2.1)
            have HS3_ := (hb.cell (World.block_lt_of_cell? _ _ (hHeld.2.2.2.1))).trans (hHeld.2.2.2.1)
            have HS4_ := (hb.cell (World.block_lt_of_cell? _ _ (hHeld.2.2.2.2.1))).trans (hHeld.2.2.2.2.1)
            have HS5_ := (hb.cell (World.block_lt_of_cell? _ _ (hHeld.2.2.2.2.2.1))).trans (hHeld.2.2.2.2.2.1)
            have HS6_ := (hb.cell (World.block_lt_of_cell? _ _ (hHeld.2.2.2.2.2.2.1))).trans (hHeld.2.2.2.2.2.2.1)
            have HS7_ := (hb.cell (World.block_lt_of_cell? _ _ (hHeld.2.2.2.2.2.2.2))).trans (hHeld.2.2.2.2.2.2.2)
            refine ⟨_, rfl, ?_⟩
            replace HO_3 := aM (rB (rl HO_3) hb)
            replace HO_4 := aM (rB (rl HO_4) hb)
            replace HB := aM (bS (bl) hb)
            (try clear hb)
            (try clear hb2)
            (try clear hk)
            (try clear hi)
            refine hK.out _ _ ⟨HS0_, HS1_, HS2_, HS3_, HS4_, HS5_, HS6_, HS7_⟩ (fun hHeld => ?_)
            clear hK K
            refine norm_ (a' := ?_) ?_ ?_
            rotate_left
            ·show Act.put _ (some 31) _ = _
             simp only [Act.put, sA, sB, sC, i64_w, i32_w]
             rfl
            refine pure_ (i := 9) (N := some 32) (v := ?_) (a' := ?_) (ba 10 1023) rfl rfl (any_of HT_.out (by kernel_rfl)) (fun _ _ _ h => h) (Or.inl ⟨by rfl, ?_⟩) ?_ ?_
            rotate_left
            ·intro w'
             go_simp
             with_reducible rfl
            rotate_left
            ·simp only [Act.put, sA, sB, sC, i64_w, i32_w]
             rfl
            refine done_ (done_of HT_.out (by kernel_rfl)) ?_
            try go_wp2
            replace HO_3 := aM (rD HO_3.out)
            replace HO_4 := aM (rD HO_4.out)
            replace HB := aM (bD HB.out)
            have p338 : 0 ≤ (x5_1 : Int) := of_decide_eq_true (by first | (with_reducible assumption) | assumption)
            have q338 : x5_1 < (t332.length : Int) := of_decide_eq_true (by first | (with_reducible assumption) | assumption)
            obtain ⟨ad338, e338, hx338_0, hx338_1, hx338_2, hx338_3⟩ := at_T35 (rR HO_3.out).2.2 x5_1 p338 q338
            obtain rfl : ad335 = ad338 := (by injection e338)
            replace p338 := eq_true p338
            replace q338 := eq_true q338
            have p339 : 0 ≤ (x6_2 : Int) := of_decide_eq_true (by first | (with_reducible assumption) | assumption)
            have q339 : x6_2 < (t332.length : Int) := of_decide_eq_true (by first | (with_reducible assumption) | assumption)
            obtain ⟨ad339, e339, hx339_0, hx339_1, hx339_2, hx339_3⟩ := at_T35 (rR HO_3.out).2.2 x6_2 p339 q339
            obtain rfl : ad335 = ad339 := (by injection e339)
            replace p339 := eq_true p339
            replace q339 := eq_true q339
            refine start_ (n := 13) (S := fun w' => w'.cell? (ad335.add ((x5_1).toNat * 4)) = some (.int .i64 ((rd_T35 t332 x5_1).f0.f0)) ∧ w'.cell? ⟨(ad335.add ((x5_1).toNat * 4)).block, (ad335.add ((x5_1).toNat * 4)).off + 1, none⟩ = some (.int .i64 ((rd_T35 t332 x5_1).f0.f1)) ∧ w'.cell? ⟨(ad335.add ((x5_1).toNat * 4)).block, (ad335.add ((x5_1).toNat * 4)).off + 2, none⟩ = some (.int .i64 ((rd_T35 t332 x5_1).f1.f0)) ∧ w'.cell? ⟨(ad335.add ((x5_1).toNat * 4)).block, (ad335.add ((x5_1).toNat * 4)).off + 3, none⟩ = some (.int .i64 ((rd_T35 t332 x5_1).f1.f1)) ∧ w'.cell? (ad335.add ((x6_2).toNat * 4)) = some (.int .i64 ((rd_T35 t332 x6_2).f0.f0)) ∧ w'.cell? ⟨(ad335.add ((x6_2).toNat * 4)).block, (ad335.add ((x6_2).toNat * 4)).off + 1, none⟩ = some (.int .i64 ((rd_T35 t332 x6_2).f0.f1)) ∧ w'.cell? ⟨(ad335.add ((x6_2).toNat * 4)).block, (ad335.add ((x6_2).toNat * 4)).off + 2, none⟩ = some (.int .i64 ((rd_T35 t332 x6_2).f1.f0)) ∧ w'.cell? ⟨(ad335.add ((x6_2).toNat * 4)).block, (ad335.add ((x6_2).toNat * 4)).off + 3, none⟩ = some (.int .i64 ((rd_T35 t332 x6_2).f1.f1))) (ds := [10, 11]) #[false, false, false, false, false, false, false, false, false, false, false, false, false] (by kernel_rfl) rfl rfl ⟨hx338_0, hx338_1, hx338_2, hx338_3, hx339_0, hx339_1, hx339_2, hx339_3⟩ (fun hHeld => ?_); refine with_tabW mapmakerref20_Crossings.tab10 mapmakerref20_Crossings.bits10 (fun HT_ HW_ => ?_)
            generalize w14.drew = w15 at HO_3 HO_4 HB hx338_0 hx338_1 hx338_2 hx338_3 hx339_0 hx339_1 hx339_2 hx339_3 hHeld ⊢
            refine pure_ (i := 0) (N := some 33) (v := ?_) (a' := ?_) (ba 13 1) rfl rfl (any_of HT_.out (by kernel_rfl)) (fun _ _ _ h => h) (Or.inl ⟨by rfl, ?_⟩) ?_ ?_
            rotate_left
            ·intro w'
             go_simp
             with_reducible rfl
            rotate_left
            ·simp only [Act.put, sA, sB, sC, i64_w, i32_w]
             rfl
            refine pure_ (i := 1) (N := some 34) (v := ?_) (a' := ?_) (ba 13 3) rfl rfl (any_of HT_.out (by kernel_rfl)) (fun _ _ _ h => h) (Or.inl ⟨by rfl, ?_⟩) ?_ ?_
            rotate_left
            ·intro w'
             go_simp
             with_reducible rfl
            rotate_left
            ·simp only [Act.put, sA, sB, sC, i64_w, i32_w]
             rfl
            refine pure_ (i := 2) (N := some 35) (v := ?_) (a' := ?_) (ba 13 7) rfl rfl (any_of HT_.out (by kernel_rfl)) (fun _ _ _ h => h) (Or.inl ⟨by rfl, ?_⟩) ?_ ?_
            rotate_left
            ·intro w'
             go_simp
             with_reducible rfl
            rotate_left
            ·simp only [Act.put, sA, sB, sC, i64_w, i32_w]
             rfl
            refine pure_ (i := 3) (N := some 36) (v := ?_) (a' := ?_) (ba 13 15) rfl rfl (any_of HT_.out (by kernel_rfl)) (fun _ _ _ h => h) (Or.inl ⟨by rfl, ?_⟩) ?_ ?_
            rotate_left
            ·intro w'
             go_simp
             with_reducible rfl
            rotate_left
            ·simp only [Act.put, sA, sB, sC, i64_w, i32_w]
             rfl
            refine pure_ (i := 5) (N := some 38) (v := ?_) (a' := ?_) (ba 13 47) rfl rfl (any_of HT_.out (by kernel_rfl)) (fun _ _ _ h => h) (Or.inl ⟨by rfl, ?_⟩) ?_ ?_
            rotate_left
            ·intro w'
             go_simp
             with_reducible rfl
            rotate_left
            ·simp only [Act.put, sA, sB, sC, i64_w, i32_w]
             rfl
            refine pure_ (i := 6) (N := some 39) (v := ?_) (a' := ?_) (ba 13 111) rfl rfl (any_of HT_.out (by kernel_rfl)) (fun _ _ _ h => h) (Or.inl ⟨by rfl, ?_⟩) ?_ ?_
            rotate_left
            ·intro w'
             go_simp
             with_reducible rfl
            rotate_left
            ·simp only [Act.put, sA, sB, sC, i64_w, i32_w]
             rfl
            refine pure_ (i := 7) (N := some 40) (v := ?_) (a' := ?_) (ba 13 239) rfl rfl (any_of HT_.out (by kernel_rfl)) (fun _ _ _ h => h) (Or.inl ⟨by rfl, ?_⟩) ?_ ?_
            rotate_left
            ·intro w'
             go_simp
             with_reducible rfl
            rotate_left
            ·simp only [Act.put, sA, sB, sC, i64_w, i32_w]
             rfl
            refine take_ (i := 4) (N := some 37) (v := ?_) (a' := ?_) (ba 13 255) rfl rfl (take_ofW HT_.out HW_.out (by kernel_rfl)) (fun _ _ _ h => h) (Or.inl ⟨by rfl, ?_⟩) hHeld ?_ ?_
            rotate_left
            ·rintro w' ⟨s0, s1, s2, s3, s4, s5, s6, s7⟩
             go_simp
             with_reducible rfl
            rotate_left
            ·simp only [Act.put, sA, sB, sC, i64_w, i32_w]
             rfl
            refine take_ (i := 8) (N := some 41) (v := ?_) (a' := ?_) (ba 13 511) rfl rfl (take_ofW HT_.out HW_.out (by kernel_rfl)) (fun _ _ _ h => h) (Or.inl ⟨by rfl, ?_⟩) hHeld ?_ ?_
            rotate_left
            ·rintro w' ⟨s0, s1, s2, s3, s4, s5, s6, s7⟩
             go_simp
             with_reducible rfl
            rotate_left
            ·simp only [Act.put, sA, sB, sC, i64_w, i32_w]
             rfl
            refine pure_ (i := 9) (N := some 42) (v := ?_) (a' := ?_) (ba 13 1023) rfl rfl (any_of HT_.out (by kernel_rfl)) (fun _ _ _ h => h) (Or.inl ⟨by rfl, ?_⟩) ?_ ?_
            rotate_left
            ·intro w'
             go_simp
             with_reducible rfl
            rotate_left
            ·simp only [Act.put, sA, sB, sC, i64_w, i32_w]
             rfl
            refine last_ (i := 10) (N := some 43) (ba 13 2047) rfl rfl (one_of HT_.out (by kernel_rfl)) (by decide) (fun K hK => ?_)
            refine value_ (w1 := ?_) (v := ?_) (by rfl) rfl ?_ ?_
            rotate_left 2
            ·go_simp
             constructor
             ·rfl
             ·rfl
            refine hK.out _ _ ?_
            clear hK K
            refine norm_ (a' := ?_) ?_ ?_
            rotate_left
            ·show Act.put _ (some 43) _ = _
             simp only [Act.put, sA, sB, sC, i64_w, i32_w]
             rfl
            refine last_ (i := 11) (N := some 44) (ba 13 4095) rfl rfl (one_of HT_.out (by kernel_rfl)) (by decide) (fun K hK => ?_)
            refine Kd.R_append_step k36 (w0 := w) w.heap.size (by rfl) (.tmp 33) (.tmp 43) 30 36 (.agg #[(.int .i64 0), (.int .i64 0), (.int .i64 0), (.int .i64 0), (.int .i64 0), (.int .i64 0), (.int .i64 0), (.int .i64 0)]) 64 rfl Try.underlying30 info36 rfl (by decide) (by omega) u4 x4_2 (⟨(⟨(⟨(rd_T35 t332 x5_1).f0.f0, (rd_T35 t332 x5_1).f0.f1⟩ : S33), (⟨(rd_T35 t332 x5_1).f1.f0, (rd_T35 t332 x5_1).f1.f1⟩ : S33)⟩ : S35), (⟨(⟨(rd_T35 t332 x6_2).f0.f0, (rd_T35 t332 x6_2).f0.f1⟩ : S33), (⟨(rd_T35 t332 x6_2).f1.f0, (rd_T35 t332 x6_2).f1.f1⟩ : S33)⟩ : S35)⟩ : S36) [.int .i64 ((rd_T35 t332 x5_1).f0.f0), .int .i64 ((rd_T35 t332 x5_1).f0.f1), .int .i64 ((rd_T35 t332 x5_1).f1.f0), .int .i64 ((rd_T35 t332 x5_1).f1.f1), .int .i64 ((rd_T35 t332 x6_2).f0.f0), .int .i64 ((rd_T35 t332 x6_2).f0.f1), .int .i64 ((rd_T35 t332 x6_2).f1.f0), .int .i64 ((rd_T35 t332 x6_2).f1.f1)] (fun _ => True) (fun _ => False) rfl rfl ?aP (fun _ hk => hk.elim) ?aF ?aO ?aB ?aS ?aL ?_
            (case aP => exact k36_mkM _ _ _ (⟨(⟨(⟨(rd_T35 t332 x5_1).f0.f0, (rd_T35 t332 x5_1).f0.f1⟩ : S33), (⟨(rd_T35 t332 x5_1).f1.f0, (rd_T35 t332 x5_1).f1.f1⟩ : S33)⟩ : S35), (⟨(⟨(rd_T35 t332 x6_2).f0.f0, (rd_T35 t332 x6_2).f0.f1⟩ : S33), (⟨(rd_T35 t332 x6_2).f1.f0, (rd_T35 t332 x6_2).f1.f1⟩ : S33)⟩ : S35)⟩ : S36))
            (case aB => exact (bl))
            (case aF => exact (fun _ _ => trivial))
            (case aO => exact (rl HO_4))
            (case aS => exact (below_size (bl)))
            (case aL => have := LMc12.out; omega)
            intro v341 w16 ho hb hg hat
            rw [← Ny340.out] at ho
            have n0_ := aM (Kd.R_over' (rl HO_3) (Kd.R_typed (rl HO_4)) (by decide) hg)
            have n1_ := aM (hb)
            have n2_ := aM (ho)
            clear HO_3 HB HO_4
            have HO_3 := n0_
            have HB := n1_
            have HO342 := n2_
            clear n0_ n1_ n2_ ho hb hg hat
            refine hK.out _ _ ?_
            clear hK K
            refine norm_ (a' := ?_) ?_ ?_
            rotate_left
            ·show Act.put _ (some 44) _ = _
             simp only [Act.put, sA, sB, sC, i64_w, i32_w]
             rfl
            refine pure_ (i := 12) (N := some 4) (v := ?_) (a' := ?_) (ba 13 8191) rfl rfl (any_of HT_.out (by kernel_rfl)) (fun _ _ _ h => h) (Or.inl ⟨by rfl, ?_⟩) ?_ ?_
            rotate_left
            ·intro w'
             go_simp
             with_reducible rfl
            rotate_left
            ·simp only [Act.put, sA, sB, sC, i64_w, i32_w]
             rfl
            refine done_ (done_of HT_.out (by kernel_rfl)) ?_
            try go_wp2
            go_roundg k2
            case measure => have := HK1.out; have := HK2.out; omega
            case rel => exact ⟨(y340), (wrap64 (x6_2 + 1)), (by first | rfl | (simp; done) | (simp [*]; done)), H', ⟨by have := HK1.out; have := HK2.out; omega⟩, ⟨by (with_reducible repeat (first | apply rA | apply rN | apply rD)); exact HO_3.out⟩, ⟨by (with_reducible repeat (first | apply rA | apply rN | apply rD)); exact HO342.out⟩, ⟨bl⟩⟩
           ·rw [if_neg c12] at H
            exact absurd H (by simp)
          ·rw [if_neg c11] at H
           have c11b0 : decide (2 ≤ t337) = false := decide_eq_false c11
           clear c11
           have H' := aM H
           clear H
           try go_wp2
           replace HO_3 := aM (rD HO_3.out)
           replace HO_4 := aM (rD HO_4.out)
           replace HB := aM (bD HB.out)
           have p335 : 0 ≤ (x5_1 : Int) := of_decide_eq_true (by first | (with_reducible assumption) | assumption)
           have q335 : x5_1 < (t332.length : Int) := of_decide_eq_true (by first | (with_reducible assumption) | assumption)
           obtain ⟨ad335, e335, hx335_0, hx335_1, hx335_2, hx335_3⟩ := at_T35 (rR HO_3.out).2.2 x5_1 p335 q335
           cases e335
           replace p335 := eq_true p335
           replace q335 := eq_true q335
           have p336 : 0 ≤ (x6_2 : Int) := of_decide_eq_true (by first | (with_reducible assumption) | assumption)
           have q336 : x6_2 < (t332.length : Int) := of_decide_eq_true (by first | (with_reducible assumption) | assumption)
           obtain ⟨ad336, e336, hx336_0, hx336_1, hx336_2, hx336_3⟩ := at_T35 (rR HO_3.out).2.2 x6_2 p336 q336
           obtain rfl : ad335 = ad336 := (by injection e336)
           replace p336 := eq_true p336
           replace q336 := eq_true q336
           refine start_ (n := 10) (S := fun w' => w'.cell? (ad335.add ((x5_1).toNat * 4)) = some (.int .i64 ((rd_T35 t332 x5_1).f0.f0)) ∧ w'.cell? ⟨(ad335.add ((x5_1).toNat * 4)).block, (ad335.add ((x5_1).toNat * 4)).off + 1, none⟩ = some (.int .i64 ((rd_T35 t332 x5_1).f0.f1)) ∧ w'.cell? ⟨(ad335.add ((x5_1).toNat * 4)).block, (ad335.add ((x5_1).toNat * 4)).off + 2, none⟩ = some (.int .i64 ((rd_T35 t332 x5_1).f1.f0)) ∧ w'.cell? ⟨(ad335.add ((x5_1).toNat * 4)).block, (ad335.add ((x5_1).toNat * 4)).off + 3, none⟩ = some (.int .i64 ((rd_T35 t332 x5_1).f1.f1)) ∧ w'.cell? (ad335.add ((x6_2).toNat * 4)) = some (.int .i64 ((rd_T35 t332 x6_2).f0.f0)) ∧ w'.cell? ⟨(ad335.add ((x6_2).toNat * 4)).block, (ad335.add ((x6_2).toNat * 4)).off + 1, none⟩ = some (.int .i64 ((rd_T35 t332 x6_2).f0.f1)) ∧ w'.cell? ⟨(ad335.add ((x6_2).toNat * 4)).block, (ad335.add ((x6_2).toNat * 4)).off + 2, none⟩ = some (.int .i64 ((rd_T35 t332 x6_2).f1.f0)) ∧ w'.cell? ⟨(ad335.add ((x6_2).toNat * 4)).block, (ad335.add ((x6_2).toNat * 4)).off + 3, none⟩ = some (.int .i64 ((rd_T35 t332 x6_2).f1.f1))) (ds := []) #[false, false, false, false, false, false, false, false, false, false] (by kernel_rfl) rfl rfl ⟨hx335_0, hx335_1, hx335_2, hx335_3, hx336_0, hx336_1, hx336_2, hx336_3⟩ (fun hHeld => ?_); refine with_tabW mapmakerref20_Crossings.tab9 mapmakerref20_Crossings.bits9 (fun HT_ HW_ => ?_)
           generalize wr.drew = w17 at HO_3 HO_4 HB hx335_0 hx335_1 hx335_2 hx335_3 hx336_0 hx336_1 hx336_2 hx336_3 hHeld ⊢
           refine pure_ (i := 0) (N := some 23) (v := ?_) (a' := ?_) (ba 10 1) rfl rfl (any_of HT_.out (by kernel_rfl)) (fun _ _ _ h => h) (Or.inl ⟨by rfl, ?_⟩) ?_ ?_
           rotate_left
           ·intro w'
            go_simp
            with_reducible rfl
           rotate_left
           ·simp only [Act.put, sA, sB, sC, i64_w, i32_w]
            rfl
           refine pure_ (i := 1) (N := some 24) (v := ?_) (a' := ?_) (ba 10 3) rfl rfl (any_of HT_.out (by kernel_rfl)) (fun _ _ _ h => h) (Or.inl ⟨by rfl, ?_⟩) ?_ ?_
           rotate_left
           ·intro w'
            go_simp
            with_reducible rfl
           rotate_left
           ·simp only [Act.put, sA, sB, sC, i64_w, i32_w]
            rfl
           refine pure_ (i := 2) (N := some 25) (v := ?_) (a' := ?_) (ba 10 7) rfl rfl (any_of HT_.out (by kernel_rfl)) (fun _ _ _ h => h) (Or.inl ⟨by rfl, ?_⟩) ?_ ?_
           rotate_left
           ·intro w'
            go_simp
            with_reducible rfl
           rotate_left
           ·simp only [Act.put, sA, sB, sC, i64_w, i32_w]
            rfl
           refine pure_ (i := 4) (N := some 27) (v := ?_) (a' := ?_) (ba 10 23) rfl rfl (any_of HT_.out (by kernel_rfl)) (fun _ _ _ h => h) (Or.inl ⟨by rfl, ?_⟩) ?_ ?_
           rotate_left
           ·intro w'
            go_simp
            with_reducible rfl
           rotate_left
           ·simp only [Act.put, sA, sB, sC, i64_w, i32_w]
            rfl
           refine pure_ (i := 5) (N := some 28) (v := ?_) (a' := ?_) (ba 10 55) rfl rfl (any_of HT_.out (by kernel_rfl)) (fun _ _ _ h => h) (Or.inl ⟨by rfl, ?_⟩) ?_ ?_
           rotate_left
           ·intro w'
            go_simp
            with_reducible rfl
           rotate_left
           ·simp only [Act.put, sA, sB, sC, i64_w, i32_w]
            rfl
           refine pure_ (i := 6) (N := some 29) (v := ?_) (a' := ?_) (ba 10 119) rfl rfl (any_of HT_.out (by kernel_rfl)) (fun _ _ _ h => h) (Or.inl ⟨by rfl, ?_⟩) ?_ ?_
           rotate_left
           ·intro w'
            go_simp
            with_reducible rfl
           rotate_left
           ·simp only [Act.put, sA, sB, sC, i64_w, i32_w]
            rfl
           refine take_ (i := 3) (N := some 26) (v := ?_) (a' := ?_) (ba 10 127) rfl rfl (take_ofW HT_.out HW_.out (by kernel_rfl)) (fun _ _ _ h => h) (Or.inl ⟨by rfl, ?_⟩) hHeld ?_ ?_
           rotate_left
           ·rintro w' ⟨s0, s1, s2, s3, s4, s5, s6, s7⟩
            go_simp
            with_reducible rfl
           rotate_left
           ·simp only [Act.put, sA, sB, sC, i64_w, i32_w]
            rfl
           refine take_ (i := 7) (N := some 30) (v := ?_) (a' := ?_) (ba 10 255) rfl rfl (take_ofW HT_.out HW_.out (by kernel_rfl)) (fun _ _ _ h => h) (Or.inl ⟨by rfl, ?_⟩) hHeld ?_ ?_
           rotate_left
           ·rintro w' ⟨s0, s1, s2, s3, s4, s5, s6, s7⟩
            go_simp
            with_reducible rfl
           rotate_left
           ·simp only [Act.put, sA, sB, sC, i64_w, i32_w]
            rfl
           refine one_ (i := 8) (N := some 31) (ba 10 511) rfl rfl (one_of HT_.out (by kernel_rfl)) (by decide) (fun K hK => ?_)
           refine goes_ Try.func27 (by kernel_rfl) rfl #[.agg #[.int .i64 ((rd_T35 t332 x5_1).f0.f0), .int .i64 ((rd_T35 t332 x5_1).f0.f1), .int .i64 ((rd_T35 t332 x5_1).f1.f0), .int .i64 ((rd_T35 t332 x5_1).f1.f1)], .agg #[.int .i64 ((rd_T35 t332 x6_2).f0.f0), .int .i64 ((rd_T35 t332 x6_2).f0.f1), .int .i64 ((rd_T35 t332 x6_2).f1.f0), .int .i64 ((rd_T35 t332 x6_2).f1.f1)]] (by rfl) rfl rfl (by (try simp only [List.map_toArray, List.map_cons, List.map_nil]); first | done | rfl | (simp only [List.length_drop, List.length_take]; rfl)) ?_
           with_reducible refine (mapmakerref09_Relate.calls k2 ((rd_T35 t332 x5_1).f0.f0) ((rd_T35 t332 x5_1).f0.f1) ((rd_T35 t332 x5_1).f1.f0) ((rd_T35 t332 x5_1).f1.f1) ((rd_T35 t332 x6_2).f0.f0) ((rd_T35 t332 x6_2).f0.f1) ((rd_T35 t332 x6_2).f1.f0) ((rd_T35 t332 x6_2).f1.f1) t337 _ A10.out).mono ?_
           rintro e w18 ⟨rfl, hb⟩
           have HS0_ := (hb.cell (World.block_lt_of_cell? _ _ (hHeld.1))).trans (hHeld.1)
           have HS1_ := (hb.cell (World.block_lt_of_cell? _ _ (hHeld.2.1))).trans (hHeld.2.1)
           have HS2_ := (hb.cell (World.block_lt_of_cell? _ _ (hHeld.2.2.1))).trans (hHeld.2.2.1)
           have HS3_ := (hb.cell (World.block_lt_of_cell? _ _ (hHeld.2.2.2.1))).trans (hHeld.2.2.2.1)
           have HS4_ := (hb.cell (World.block_lt_of_cell? _ _ (hHeld.2.2.2.2.1))).trans (hHeld.2.2.2.2.1)
           have HS5_ := (hb.cell (World.block_lt_of_cell? _ _ (hHeld.2.2.2.2.2.1))).trans (hHeld.2.2.2.2.2.1)
           have HS6_ := (hb.cell (World.block_lt_of_cell? _ _ (hHeld.2.2.2.2.2.2.1))).trans (hHeld.2.2.2.2.2.2.1)
           have HS7_ := (hb.cell (World.block_lt_of_cell? _ _ (hHeld.2.2.2.2.2.2.2))).trans (hHeld.2.2.2.2.2.2.2)
           refine ⟨_, rfl, ?_⟩
           replace HO_3 := aM (rB (rl HO_3) hb)
           replace HO_4 := aM (rB (rl HO_4) hb)
           replace HB := aM (bS (bl) hb)
           (try clear hb)
           (try clear hb2)
           (try clear hk)
           (try clear hi)
           refine hK.out _ _ ⟨HS0_, HS1_, HS2_, HS3_, HS4_, HS5_, HS6_, HS7_⟩ (fun hHeld => ?_)
           clear hK K
           refine norm_ (a' := ?_) ?_ ?_
           rotate_left
           ·show Act.put _ (some 31) _ = _
            simp only [Act.put, sA, sB, sC, i64_w, i32_w]
            rfl
           refine pure_ (i := 9) (N := some 32) (v := ?_) (a' := ?_) (ba 10 1023) rfl rfl (any_of HT_.out (by kernel_rfl)) (fun _ _ _ h => h) (Or.inl ⟨by rfl, ?_⟩) ?_ ?_
           rotate_left
           ·intro w'
            go_simp
            with_reducible rfl
           rotate_left
           ·simp only [Act.put, sA, sB, sC, i64_w, i32_w]
            rfl
           refine done_ (done_of HT_.out (by kernel_rfl)) ?_
           try go_wp2
           go_roundg k2
           case measure => have := HK1.out; have := HK2.out; omega
           case rel => exact ⟨(x4_2), (wrap64 (x6_2 + 1)), (by first | rfl | (simp; done) | (simp [*]; done)), H', ⟨by have := HK1.out; have := HK2.out; omega⟩, ⟨by (with_reducible repeat (first | apply rA | apply rN | apply rD)); exact HO_3.out⟩, ⟨by (with_reducible repeat (first | apply rA | apply rN | apply rD)); exact HO_4.out⟩, ⟨bl⟩⟩
         ·rw [if_neg c9] at H
          exact absurd H (by simp)
        ·rw [if_neg c8] at H
         exact absurd H (by simp)
       ·rw [if_neg c7] at H
        exact absurd H (by simp)
      ·rw [if_neg c6] at H
       have c6b0 : decide (x6_2 < (t332.length : Int)) = false := decide_eq_false c6
       clear c6
       have H' := aM H
       clear H
       go_wp2
       go_roundg k2
       case measure => have := HK1.out; have := HK2.out; omega
       case rel => exact ⟨(x4_2), (wrap64 (x5_1 + 1)), (by first | rfl | (simp; done) | (simp [*]; done)), H', ⟨by have := HK1.out; have := HK2.out; omega⟩, ⟨by (with_reducible repeat (first | apply rA | apply rN | apply rD)); exact HO_3.out⟩, ⟨by (with_reducible repeat (first | apply rA | apply rN | apply rD)); exact HO_4.out⟩, ⟨bl⟩⟩
   ·rw [if_neg c4] at H
    have c4b0 : decide (x5_1 < (t332.length : Int)) = false := decide_eq_false c4
    clear c4
    obtain rfl := Option.some.inj H
    obtain ⟨Ao19, co19, eo19⟩ := Kd.R_slice HO_3.out
    subst eo19
    go_wp2
    go_ret
    exact ⟨_, by first | rfl | (simp [errW_none, errW_some] <;> rfl) | (simp [*, errW_none, errW_some] <;> rfl), by (with_reducible repeat (first | apply rA | apply rN | apply rD)); exact HO_4.out, bl⟩
def mapmakerlaw20_NodingCrosses.l0 : Nat → List (S36) → List (S36) → Int → Option (Bool)
 | 0, _, _, _ => none
 | k + 1, x3, x4, x5 => if x5 < (x3.length : Int) then (if 0 ≤ x5 then (if x5 < (x4.length : Int) then (if (((!(((rd_T36 x3 x5).f0.f0.f0) == ((rd_T36 x4 x5).f0.f0.f0)) || (!(((rd_T36 x3 x5).f0.f0.f1) == ((rd_T36 x4 x5).f0.f0.f1)))) || ((!(((rd_T36 x3 x5).f0.f1.f0) == ((rd_T36 x4 x5).f0.f1.f0)) || (!(((rd_T36 x3 x5).f0.f1.f1) == ((rd_T36 x4 x5).f0.f1.f1)))))) || (((!(((rd_T36 x3 x5).f1.f0.f0) == ((rd_T36 x4 x5).f1.f0.f0)) || (!(((rd_T36 x3 x5).f1.f0.f1) == ((rd_T36 x4 x5).f1.f0.f1)))) || ((!(((rd_T36 x3 x5).f1.f1.f0) == ((rd_T36 x4 x5).f1.f1.f0)) || (!(((rd_T36 x3 x5).f1.f1.f1) == ((rd_T36 x4 x5).f1.f1.f1)))))))) = true then (some false) else (mapmakerlaw20_NodingCrosses.l0 k x3 x4 (wrap64 (x5 + 1)))) else (none)) else (none)) else ((mapmakerlaw20_lives.f k).bind fun t353 => (some t353))
def mapmakerlaw20_NodingCrosses.f (k : Nat) (l0 : List (S35)) : Option (Bool) := (mapmakerlaw20_few.f l0).bind fun t343 => (if t343 = true then ((noding_Crossings.f k l0).bind fun t345 => ((mapmakerref20_Crossings.f k l0).bind fun t348 => (if (t345.length : Int) = (t348.length : Int) then (mapmakerlaw20_NodingCrosses.l0 k t345 t348 0) else (some false)))) else ((mapmakerlaw20_lives.f k).bind fun t344 => (some t344)))
theorem mapmakerlaw20_NodingCrosses.mono_l : ∀ k, (∀ y0 y1 y2, LeO (mapmakerlaw20_NodingCrosses.l0 k y0 y1 y2) (mapmakerlaw20_NodingCrosses.l0 (k + 1) y0 y1 y2))
 | 0 => fun _ _ _ r h => by simp [mapmakerlaw20_NodingCrosses.l0] at h
 | k + 1 => by
  have ih0 := mapmakerlaw20_NodingCrosses.mono_l k
  ·intro y0 y1 y2
   unfold mapmakerlaw20_NodingCrosses.l0
   repeat' first
   | (with_reducible exact ih0 _ _ _)
   | (with_reducible exact mapmakerlaw20_lives.mono _)
   | (with_reducible exact mapmakerref20_Crossings.mono _ _)
   | (with_reducible exact noding_Crossings.mono _ _)
   | (with_reducible exact LeO.refl _)
   | (with_reducible exact LeO.none _)
   | (with_reducible refine LeO.ite ?_ ?_)
   | (with_reducible refine LeO.bind ?_ (fun _ => ?_))
   | exact ih0 _ _ _
   | exact mapmakerlaw20_lives.mono _
   | exact mapmakerref20_Crossings.mono _ _
   | exact noding_Crossings.mono _ _
   | exact LeO.none _
   | refine LeO.ite ?_ ?_
   | refine LeO.bind ?_ (fun _ => ?_)
theorem mapmakerlaw20_NodingCrosses.mono : ∀ a0 k, LeO (mapmakerlaw20_NodingCrosses.f k a0) (mapmakerlaw20_NodingCrosses.f (k + 1) a0) := by
 intro a0 k
 have ih0 := mapmakerlaw20_NodingCrosses.mono_l k
 unfold mapmakerlaw20_NodingCrosses.f
 repeat' first
   | (with_reducible exact ih0 _ _ _)
   | (with_reducible exact mapmakerlaw20_lives.mono _)
   | (with_reducible exact mapmakerref20_Crossings.mono _ _)
   | (with_reducible exact noding_Crossings.mono _ _)
   | (with_reducible exact LeO.refl _)
   | (with_reducible exact LeO.none _)
   | (with_reducible refine LeO.ite ?_ ?_)
   | (with_reducible refine LeO.bind ?_ (fun _ => ?_))
   | exact ih0 _ _ _
   | exact mapmakerlaw20_lives.mono _
   | exact mapmakerref20_Crossings.mono _ _
   | exact noding_Crossings.mono _ _
   | exact LeO.none _
   | refine LeO.ite ?_ ?_
   | refine LeO.bind ?_ (fun _ => ?_)
set_option maxHeartbeats 8000000 in
set_option maxRecDepth 100000 in
theorem mapmakerlaw20_NodingCrosses.calls (k : Nat) (A0 : Option Addr) (c0 : Nat) (l0 : List (S35)) (r : Bool) (w : World) (hr0 : Kd.C k35 w A0 l0.length l0) (hc0 : l0.length ≤ c0) (h : mapmakerlaw20_NodingCrosses.f k l0 = some r) :
  Calls Try.prog 5 #[.slice A0 l0.length c0] w fun e w' => e = .returned (.bool r) ∧ Below w.heap.size w w' := by
 have hu36 := Try.underlying36
 have HR0 := aM hr0
 have HC0 := aM hc0
 clear hr0 hc0
 have HB := aM (Below.refl w.heap.size w)
 have H : ((mapmakerlaw20_few.f l0).bind fun t343 => (if t343 = true then ((noding_Crossings.f k l0).bind fun t345 => ((mapmakerref20_Crossings.f k l0).bind fun t348 => (if (t345.length : Int) = (t348.length : Int) then (mapmakerlaw20_NodingCrosses.l0 k t345 t348 0) else (some false)))) else ((mapmakerlaw20_lives.f k).bind fun t344 => (some t344)))) = some r := h
 clear h
 replace H := Option.bind_eq_some_iff.mp H
 obtain ⟨t343, A20, H⟩ := H
 try dsimp only at H
 have A2 := aM A20
 clear A20
 by_cases c3 : t343 = true
 ·subst c3
  have H1 : ((noding_Crossings.f k l0).bind fun t345 => ((mapmakerref20_Crossings.f k l0).bind fun t348 => (if (t345.length : Int) = (t348.length : Int) then (mapmakerlaw20_NodingCrosses.l0 k t345 t348 0) else (some false)))) = some r := by rw [if_pos rfl] at H; exact H
  clear H
  have H := H1
  clear H1
  replace H := Option.bind_eq_some_iff.mp H
  obtain ⟨t345, A40, H⟩ := H
  try dsimp only at H
  have A4 := aM A40
  clear A40
  replace H := Option.bind_eq_some_iff.mp H
  obtain ⟨t348, A50, H⟩ := H
  try dsimp only at H
  have A5 := aM A50
  clear A50
  by_cases c6 : (t345.length : Int) = (t348.length : Int)
  ·rw [if_pos c6] at H
   have c6b0 : ((t345.length : Int) == (t348.length : Int)) = true := beq_iff_eq.mpr c6
   have c6b1 : ((t345.length : Int) != (t348.length : Int)) = false := bne_eq_false_iff_eq.mpr c6
   have c6b2 : (t345.length == t348.length) = true := by first | simpa using c6 | (simp at c6 ⊢; omega)
   clear c6
   have H' := aM H
   clear H
   go_enter Try.func5, Try.ntmps5
   go_wp2_with (first | (go_at_call 8; (with_reducible refine (mapmakerlaw20_few.calls _ _ l0 true _ ?side1 ?side2 A2.out).mono ?_); (case side1 => repeat (first | exact HR0.out | (with_reducible refine cA ?_ _) | (with_reducible refine cN ?_ _) | (with_reducible refine cD ?_))); (case side2 => exact HC0.out); rintro e w' ⟨rfl, ⟨nd, rfl⟩⟩; (try first | exact ⟨rfl, _, World.drewN_drewN _ _ _⟩ | exact ⟨rfl, _, Eq.trans (World.drewN_drewN _ _ _) (congrArg (World.drewN _) (Nat.add_assoc _ _ _))⟩)) | (go_at_call 23; (with_reducible refine (noding_Crossings.calls k _ _ l0 t345 _ ?side1 ?side2 A4.out).mono ?_); (case side1 => repeat (first | exact HR0.out | (with_reducible refine cA ?_ _) | (with_reducible refine cN ?_ _) | (with_reducible refine cD ?_))); (case side2 => exact HC0.out); rintro e w7 ⟨v346, rfl, ho0, hb⟩; have HO347 := aM (Kd.R_lower ho0 (below_size (bl))); replace HB := aM (bS (bl) hb); (try clear hb); (try clear hb2); (try clear hk); (try clear hi); (try clear ho0)) | (go_at_call 24; (with_reducible refine (mapmakerref20_Crossings.calls k _ _ l0 t348 _ ?side1 ?side2 A5.out).mono ?_); (case side1 => repeat (first | exact (Kd.C_below HR0.out HB.out) | (with_reducible refine cA ?_ _) | (with_reducible refine cN ?_ _) | (with_reducible refine cD ?_))); (case side2 => exact HC0.out); rintro e w8 ⟨v349, rfl, ho0, hb⟩; have HO350 := aM (Kd.R_lower (Kd.R_new' ho0 (Kd.R_lt (rl HO347))) (below_size (bl))); replace HO347 := aM (rE (rl HO347) (Kd.R_base ho0) hb); replace HB := aM (bS (bl) hb); (try clear hb); (try clear hb2); (try clear hk); (try clear hi); (try clear ho0); obtain ⟨Ao9, co9, eo9⟩ := Kd.R_slice HO347.out; subst eo9; obtain ⟨Ao10, co10, eo10⟩ := Kd.R_slice HO350.out; subst eo10))
   repeat (go_quiet (first | (go_at_call 8; (with_reducible refine (mapmakerlaw20_few.calls _ _ l0 true _ ?side1 ?side2 A2.out).mono ?_); (case side1 => repeat (first | exact HR0.out | (with_reducible refine cA ?_ _) | (with_reducible refine cN ?_ _) | (with_reducible refine cD ?_))); (case side2 => exact HC0.out); rintro e w' ⟨rfl, ⟨nd, rfl⟩⟩; (try first | exact ⟨rfl, _, World.drewN_drewN _ _ _⟩ | exact ⟨rfl, _, Eq.trans (World.drewN_drewN _ _ _) (congrArg (World.drewN _) (Nat.add_assoc _ _ _))⟩)) | (go_at_call 23; (with_reducible refine (noding_Crossings.calls k _ _ l0 t345 _ ?side1 ?side2 A4.out).mono ?_); (case side1 => repeat (first | exact HR0.out | (with_reducible refine cA ?_ _) | (with_reducible refine cN ?_ _) | (with_reducible refine cD ?_))); (case side2 => exact HC0.out); rintro e w7 ⟨v346, rfl, ho0, hb⟩; have HO347 := aM (Kd.R_lower ho0 (below_size (bl))); replace HB := aM (bS (bl) hb); (try clear hb); (try clear hb2); (try clear hk); (try clear hi); (try clear ho0)) | (go_at_call 24; (with_reducible refine (mapmakerref20_Crossings.calls k _ _ l0 t348 _ ?side1 ?side2 A5.out).mono ?_); (case side1 => repeat (first | exact (Kd.C_below HR0.out HB.out) | (with_reducible refine cA ?_ _) | (with_reducible refine cN ?_ _) | (with_reducible refine cD ?_))); (case side2 => exact HC0.out); rintro e w8 ⟨v349, rfl, ho0, hb⟩; have HO350 := aM (Kd.R_lower (Kd.R_new' ho0 (Kd.R_lt (rl HO347))) (below_size (bl))); replace HO347 := aM (rE (rl HO347) (Kd.R_base ho0) hb); replace HB := aM (bS (bl) hb); (try clear hb); (try clear hb2); (try clear hk); (try clear hi); (try clear ho0); obtain ⟨Ao9, co9, eo9⟩ := Kd.R_slice HO347.out; subst eo9; obtain ⟨Ao10, co10, eo10⟩ := Kd.R_slice HO350.out; subst eo10)); try go_wp2_with (first | (go_at_call 8; (with_reducible refine (mapmakerlaw20_few.calls _ _ l0 true _ ?side1 ?side2 A2.out).mono ?_); (case side1 => repeat (first | exact HR0.out | (with_reducible refine cA ?_ _) | (with_reducible refine cN ?_ _) | (with_reducible refine cD ?_))); (case side2 => exact HC0.out); rintro e w' ⟨rfl, ⟨nd, rfl⟩⟩; (try first | exact ⟨rfl, _, World.drewN_drewN _ _ _⟩ | exact ⟨rfl, _, Eq.trans (World.drewN_drewN _ _ _) (congrArg (World.drewN _) (Nat.add_assoc _ _ _))⟩)) | (go_at_call 23; (with_reducible refine (noding_Crossings.calls k _ _ l0 t345 _ ?side1 ?side2 A4.out).mono ?_); (case side1 => repeat (first | exact HR0.out | (with_reducible refine cA ?_ _) | (with_reducible refine cN ?_ _) | (with_reducible refine cD ?_))); (case side2 => exact HC0.out); rintro e w7 ⟨v346, rfl, ho0, hb⟩; have HO347 := aM (Kd.R_lower ho0 (below_size (bl))); replace HB := aM (bS (bl) hb); (try clear hb); (try clear hb2); (try clear hk); (try clear hi); (try clear ho0)) | (go_at_call 24; (with_reducible refine (mapmakerref20_Crossings.calls k _ _ l0 t348 _ ?side1 ?side2 A5.out).mono ?_); (case side1 => repeat (first | exact (Kd.C_below HR0.out HB.out) | (with_reducible refine cA ?_ _) | (with_reducible refine cN ?_ _) | (with_reducible refine cD ?_))); (case side2 => exact HC0.out); rintro e w8 ⟨v349, rfl, ho0, hb⟩; have HO350 := aM (Kd.R_lower (Kd.R_new' ho0 (Kd.R_lt (rl HO347))) (below_size (bl))); replace HO347 := aM (rE (rl HO347) (Kd.R_base ho0) hb); replace HB := aM (bS (bl) hb); (try clear hb); (try clear hb2); (try clear hk); (try clear hi); (try clear ho0); obtain ⟨Ao9, co9, eo9⟩ := Kd.R_slice HO347.out; subst eo9; obtain ⟨Ao10, co10, eo10⟩ := Kd.R_slice HO350.out; subst eo10)))
   go_loopg [5] k (fun kq v5 w' => ∃ (x5_1 : Int), v5 = .int .i64 x5_1 ∧ Aside0 (mapmakerlaw20_NodingCrosses.l0 kq t345 t348 x5_1 = some r) ∧ Aside0 (kq ≤ k) ∧ Aside0 (Kd.R k36 36 w' w.heap.size (fun k_ => some k_ ≠ ((.slice Ao10 t348.length co10) : Value).ownBlock) (.slice Ao9 t345.length co9) t345) ∧ Aside0 (Kd.R k36 36 w' w.heap.size (fun k_ => some k_ ≠ ((.slice Ao9 t345.length co9) : Value).ownBlock) (.slice Ao10 t348.length co10) t348) ∧ Aside0 (Below w.heap.size w w'))
   case atStart => exact ⟨(0), (by first | rfl | (simp; done) | (simp [*]; done)), H', ⟨Nat.le_refl _⟩, ⟨by (with_reducible repeat (first | apply rA | apply rN | apply rD)); exact rM HO347.out (fun _ hk => hk.2)⟩, ⟨by (with_reducible repeat (first | apply rA | apply rN | apply rD)); exact rM HO350.out (fun _ hk => hk.2)⟩, ⟨bl⟩⟩
   case round =>
    clear H'
    try clear p2
    try clear c3
    try clear c5
    try clear c6
    try clear c6b0
    try clear c6b1
    try clear c6b2
    obtain ⟨x5_1, rfl, HA, HK1, HO_3, HO_4, HB⟩ := hrel
    cases gk with
    | zero => exact absurd HA.out (by simp [mapmakerlaw20_NodingCrosses.l0])
    | succ k1 =>
     have H := HA.out
     clear HA
     simp only [mapmakerlaw20_NodingCrosses.l0] at H
     by_cases c11 : x5_1 < (t345.length : Int)
     ·rw [if_pos c11] at H
      have c11b0 : decide (x5_1 < (t345.length : Int)) = true := decide_eq_true c11
      clear c11
      by_cases c12 : 0 ≤ x5_1
      ·rw [if_pos c12] at H
       have c12b0 : decide (0 ≤ x5_1) = true := decide_eq_true c12
       clear c12
       by_cases c13 : x5_1 < (t348.length : Int)
       ·rw [if_pos c13] at H
        have c13b0 : decide (x5_1 < (t348.length : Int)) = true := decide_eq_true c13
        clear c13
        by_cases c14 : (((!(((rd_T36 t345 x5_1).f0.f0.f0) == ((rd_T36 t348 x5_1).f0.f0.f0)) || (!(((rd_T36 t345 x5_1).f0.f0.f1) == ((rd_T36 t348 x5_1).f0.f0.f1)))) || ((!(((rd_T36 t345 x5_1).f0.f1.f0) == ((rd_T36 t348 x5_1).f0.f1.f0)) || (!(((rd_T36 t345 x5_1).f0.f1.f1) == ((rd_T36 t348 x5_1).f0.f1.f1)))))) || (((!(((rd_T36 t345 x5_1).f1.f0.f0) == ((rd_T36 t348 x5_1).f1.f0.f0)) || (!(((rd_T36 t345 x5_1).f1.f0.f1) == ((rd_T36 t348 x5_1).f1.f0.f1)))) || ((!(((rd_T36 t345 x5_1).f1.f1.f0) == ((rd_T36 t348 x5_1).f1.f1.f0)) || (!(((rd_T36 t345 x5_1).f1.f1.f1) == ((rd_T36 t348 x5_1).f1.f1.f1)))))))) = true
        ·rw [if_pos c14] at H
         have c14b0 : (((!(((rd_T36 t345 x5_1).f0.f0.f0) == ((rd_T36 t348 x5_1).f0.f0.f0)) || (!(((rd_T36 t345 x5_1).f0.f0.f1) == ((rd_T36 t348 x5_1).f0.f0.f1)))) || ((!(((rd_T36 t345 x5_1).f0.f1.f0) == ((rd_T36 t348 x5_1).f0.f1.f0)) || (!(((rd_T36 t345 x5_1).f0.f1.f1) == ((rd_T36 t348 x5_1).f0.f1.f1)))))) || (((!(((rd_T36 t345 x5_1).f1.f0.f0) == ((rd_T36 t348 x5_1).f1.f0.f0)) || (!(((rd_T36 t345 x5_1).f1.f0.f1) == ((rd_T36 t348 x5_1).f1.f0.f1)))) || ((!(((rd_T36 t345 x5_1).f1.f1.f0) == ((rd_T36 t348 x5_1).f1.f1.f0)) || (!(((rd_T36 t345 x5_1).f1.f1.f1) == ((rd_T36 t348 x5_1).f1.f1.f1)))))))) = true := c14
         clear c14
         obtain rfl := Option.some.inj H
         have p351 : 0 ≤ (x5_1 : Int) := of_decide_eq_true (by first | (with_reducible assumption) | assumption)
         have q351 : x5_1 < (t345.length : Int) := of_decide_eq_true (by first | (with_reducible assumption) | assumption)
         obtain ⟨ad351, e351, hx351_0, hx351_1, hx351_2, hx351_3, hx351_4, hx351_5, hx351_6, hx351_7⟩ := at_T36 (rR HO_3.out).2.2 x5_1 p351 q351
         cases e351
         replace p351 := eq_true p351
         replace q351 := eq_true q351
         have p352 : 0 ≤ (x5_1 : Int) := of_decide_eq_true (by first | (with_reducible assumption) | assumption)
         have q352 : x5_1 < (t348.length : Int) := of_decide_eq_true (by first | (with_reducible assumption) | assumption)
         obtain ⟨ad352, e352, hx352_0, hx352_1, hx352_2, hx352_3, hx352_4, hx352_5, hx352_6, hx352_7⟩ := at_T36 (rR HO_4.out).2.2 x5_1 p352 q352
         cases e352
         replace p352 := eq_true p352
         replace q352 := eq_true q352
         go_wp2
         repeat (go_quiet (fail); try go_wp2)
         go_ret
         exact ⟨by first | rfl | (simp [errW_none, errW_some] <;> rfl) | (simp [*, errW_none, errW_some] <;> rfl), bl⟩
        ·rw [if_neg c14] at H
         have c14b0 : (((!(((rd_T36 t345 x5_1).f0.f0.f0) == ((rd_T36 t348 x5_1).f0.f0.f0)) || (!(((rd_T36 t345 x5_1).f0.f0.f1) == ((rd_T36 t348 x5_1).f0.f0.f1)))) || ((!(((rd_T36 t345 x5_1).f0.f1.f0) == ((rd_T36 t348 x5_1).f0.f1.f0)) || (!(((rd_T36 t345 x5_1).f0.f1.f1) == ((rd_T36 t348 x5_1).f0.f1.f1)))))) || (((!(((rd_T36 t345 x5_1).f1.f0.f0) == ((rd_T36 t348 x5_1).f1.f0.f0)) || (!(((rd_T36 t345 x5_1).f1.f0.f1) == ((rd_T36 t348 x5_1).f1.f0.f1)))) || ((!(((rd_T36 t345 x5_1).f1.f1.f0) == ((rd_T36 t348 x5_1).f1.f1.f0)) || (!(((rd_T36 t345 x5_1).f1.f1.f1) == ((rd_T36 t348 x5_1).f1.f1.f1)))))))) = false := by simpa using c14
         clear c14
         have H' := aM H
         clear H
         have p351 : 0 ≤ (x5_1 : Int) := of_decide_eq_true (by first | (with_reducible assumption) | assumption)
         have q351 : x5_1 < (t345.length : Int) := of_decide_eq_true (by first | (with_reducible assumption) | assumption)
         obtain ⟨ad351, e351, hx351_0, hx351_1, hx351_2, hx351_3, hx351_4, hx351_5, hx351_6, hx351_7⟩ := at_T36 (rR HO_3.out).2.2 x5_1 p351 q351
         cases e351
         replace p351 := eq_true p351
         replace q351 := eq_true q351
         have p352 : 0 ≤ (x5_1 : Int) := of_decide_eq_true (by first | (with_reducible assumption) | assumption)
         have q352 : x5_1 < (t348.length : Int) := of_decide_eq_true (by first | (with_reducible assumption) | assumption)
         obtain ⟨ad352, e352, hx352_0, hx352_1, hx352_2, hx352_3, hx352_4, hx352_5, hx352_6, hx352_7⟩ := at_T36 (rR HO_4.out).2.2 x5_1 p352 q352
         cases e352
         replace p352 := eq_true p352
         replace q352 := eq_true q352
         go_wp2
         repeat (go_quiet (fail); try go_wp2)
         go_roundg k1
         case measure => have := HK1.out; omega
         case rel => exact ⟨(wrap64 (x5_1 + 1)), (by first | rfl | (simp; done) | (simp [*]; done)), H', ⟨by have := HK1.out; omega⟩, ⟨by (with_reducible repeat (first | apply rA | apply rN | apply rD)); exact HO_3.out⟩, ⟨by (with_reducible repeat (first | apply rA | apply rN | apply rD)); exact HO_4.out⟩, ⟨bl⟩⟩
       ·rw [if_neg c13] at H
        exact absurd H (by simp)
      ·rw [if_neg c12] at H
       exact absurd H (by simp)
     ·rw [if_neg c11] at H
      have c11b0 : decide (x5_1 < (t345.length : Int)) = false := decide_eq_false c11
      clear c11
      replace H := Option.bind_eq_some_iff.mp H
      obtain ⟨t353, A150, H⟩ := H
      try dsimp only at H
      have A15 := aM A150
      clear A150
      obtain rfl := Option.some.inj H
      go_wp2_with (first | (go_at_call 9; (with_reducible refine (mapmakerlaw20_lives.calls k1  t353 _ A15.out).mono ?_); rintro e w16 ⟨rfl, hb⟩; replace HO_3 := aM (rB (rl HO_3) hb); replace HO_4 := aM (rB (rl HO_4) hb); replace HB := aM (bS (bl) hb); (try clear hb); (try clear hb2); (try clear hk); (try clear hi)))
      repeat (go_quiet (first | (go_at_call 9; (with_reducible refine (mapmakerlaw20_lives.calls k1  t353 _ A15.out).mono ?_); rintro e w16 ⟨rfl, hb⟩; replace HO_3 := aM (rB (rl HO_3) hb); replace HO_4 := aM (rB (rl HO_4) hb); replace HB := aM (bS (bl) hb); (try clear hb); (try clear hb2); (try clear hk); (try clear hi))); try go_wp2_with (first | (go_at_call 9; (with_reducible refine (mapmakerlaw20_lives.calls k1  t353 _ A15.out).mono ?_); rintro e w16 ⟨rfl, hb⟩; replace HO_3 := aM (rB (rl HO_3) hb); replace HO_4 := aM (rB (rl HO_4) hb); replace HB := aM (bS (bl) hb); (try clear hb); (try clear hb2); (try clear hk); (try clear hi))))
      go_ret
      exact ⟨by first | rfl | (simp [errW_none, errW_some] <;> rfl) | (simp [*, errW_none, errW_some] <;> rfl), bl⟩
  ·rw [if_neg c6] at H
   have c6b0 : ((t345.length : Int) == (t348.length : Int)) = false := beq_eq_false_iff_ne.mpr c6
   have c6b1 : ((t345.length : Int) != (t348.length : Int)) = true := bne_iff_ne.mpr c6
   have c6b2 : (t345.length == t348.length) = false := by first | simpa using c6 | (simp at c6 ⊢; omega)
   obtain rfl := Option.some.inj H
   go_enter Try.func5, Try.ntmps5
   go_wp2_with (first | (go_at_call 8; (with_reducible refine (mapmakerlaw20_few.calls _ _ l0 true _ ?side1 ?side2 A2.out).mono ?_); (case side1 => repeat (first | exact HR0.out | (with_reducible refine cA ?_ _) | (with_reducible refine cN ?_ _) | (with_reducible refine cD ?_))); (case side2 => exact HC0.out); rintro e w' ⟨rfl, ⟨nd, rfl⟩⟩; (try first | exact ⟨rfl, _, World.drewN_drewN _ _ _⟩ | exact ⟨rfl, _, Eq.trans (World.drewN_drewN _ _ _) (congrArg (World.drewN _) (Nat.add_assoc _ _ _))⟩)) | (go_at_call 23; (with_reducible refine (noding_Crossings.calls k _ _ l0 t345 _ ?side1 ?side2 A4.out).mono ?_); (case side1 => repeat (first | exact HR0.out | (with_reducible refine cA ?_ _) | (with_reducible refine cN ?_ _) | (with_reducible refine cD ?_))); (case side2 => exact HC0.out); rintro e w17 ⟨v346, rfl, ho0, hb⟩; have HO347 := aM (Kd.R_lower ho0 (below_size (bl))); replace HB := aM (bS (bl) hb); (try clear hb); (try clear hb2); (try clear hk); (try clear hi); (try clear ho0)) | (go_at_call 24; (with_reducible refine (mapmakerref20_Crossings.calls k _ _ l0 t348 _ ?side1 ?side2 A5.out).mono ?_); (case side1 => repeat (first | exact (Kd.C_below HR0.out HB.out) | (with_reducible refine cA ?_ _) | (with_reducible refine cN ?_ _) | (with_reducible refine cD ?_))); (case side2 => exact HC0.out); rintro e w18 ⟨v349, rfl, ho0, hb⟩; have HO350 := aM (Kd.R_lower (Kd.R_new' ho0 (Kd.R_lt (rl HO347))) (below_size (bl))); replace HO347 := aM (rE (rl HO347) (Kd.R_base ho0) hb); replace HB := aM (bS (bl) hb); (try clear hb); (try clear hb2); (try clear hk); (try clear hi); (try clear ho0); obtain ⟨Ao19, co19, eo19⟩ := Kd.R_slice HO347.out; subst eo19; obtain ⟨Ao20, co20, eo20⟩ := Kd.R_slice HO350.out; subst eo20))
   repeat (go_quiet (first | (go_at_call 8; (with_reducible refine (mapmakerlaw20_few.calls _ _ l0 true _ ?side1 ?side2 A2.out).mono ?_); (case side1 => repeat (first | exact HR0.out | (with_reducible refine cA ?_ _) | (with_reducible refine cN ?_ _) | (with_reducible refine cD ?_))); (case side2 => exact HC0.out); rintro e w' ⟨rfl, ⟨nd, rfl⟩⟩; (try first | exact ⟨rfl, _, World.drewN_drewN _ _ _⟩ | exact ⟨rfl, _, Eq.trans (World.drewN_drewN _ _ _) (congrArg (World.drewN _) (Nat.add_assoc _ _ _))⟩)) | (go_at_call 23; (with_reducible refine (noding_Crossings.calls k _ _ l0 t345 _ ?side1 ?side2 A4.out).mono ?_); (case side1 => repeat (first | exact HR0.out | (with_reducible refine cA ?_ _) | (with_reducible refine cN ?_ _) | (with_reducible refine cD ?_))); (case side2 => exact HC0.out); rintro e w17 ⟨v346, rfl, ho0, hb⟩; have HO347 := aM (Kd.R_lower ho0 (below_size (bl))); replace HB := aM (bS (bl) hb); (try clear hb); (try clear hb2); (try clear hk); (try clear hi); (try clear ho0)) | (go_at_call 24; (with_reducible refine (mapmakerref20_Crossings.calls k _ _ l0 t348 _ ?side1 ?side2 A5.out).mono ?_); (case side1 => repeat (first | exact (Kd.C_below HR0.out HB.out) | (with_reducible refine cA ?_ _) | (with_reducible refine cN ?_ _) | (with_reducible refine cD ?_))); (case side2 => exact HC0.out); rintro e w18 ⟨v349, rfl, ho0, hb⟩; have HO350 := aM (Kd.R_lower (Kd.R_new' ho0 (Kd.R_lt (rl HO347))) (below_size (bl))); replace HO347 := aM (rE (rl HO347) (Kd.R_base ho0) hb); replace HB := aM (bS (bl) hb); (try clear hb); (try clear hb2); (try clear hk); (try clear hi); (try clear ho0); obtain ⟨Ao19, co19, eo19⟩ := Kd.R_slice HO347.out; subst eo19; obtain ⟨Ao20, co20, eo20⟩ := Kd.R_slice HO350.out; subst eo20)); try go_wp2_with (first | (go_at_call 8; (with_reducible refine (mapmakerlaw20_few.calls _ _ l0 true _ ?side1 ?side2 A2.out).mono ?_); (case side1 => repeat (first | exact HR0.out | (with_reducible refine cA ?_ _) | (with_reducible refine cN ?_ _) | (with_reducible refine cD ?_))); (case side2 => exact HC0.out); rintro e w' ⟨rfl, ⟨nd, rfl⟩⟩; (try first | exact ⟨rfl, _, World.drewN_drewN _ _ _⟩ | exact ⟨rfl, _, Eq.trans (World.drewN_drewN _ _ _) (congrArg (World.drewN _) (Nat.add_assoc _ _ _))⟩)) | (go_at_call 23; (with_reducible refine (noding_Crossings.calls k _ _ l0 t345 _ ?side1 ?side2 A4.out).mono ?_); (case side1 => repeat (first | exact HR0.out | (with_reducible refine cA ?_ _) | (with_reducible refine cN ?_ _) | (with_reducible refine cD ?_))); (case side2 => exact HC0.out); rintro e w17 ⟨v346, rfl, ho0, hb⟩; have HO347 := aM (Kd.R_lower ho0 (below_size (bl))); replace HB := aM (bS (bl) hb); (try clear hb); (try clear hb2); (try clear hk); (try clear hi); (try clear ho0)) | (go_at_call 24; (with_reducible refine (mapmakerref20_Crossings.calls k _ _ l0 t348 _ ?side1 ?side2 A5.out).mono ?_); (case side1 => repeat (first | exact (Kd.C_below HR0.out HB.out) | (with_reducible refine cA ?_ _) | (with_reducible refine cN ?_ _) | (with_reducible refine cD ?_))); (case side2 => exact HC0.out); rintro e w18 ⟨v349, rfl, ho0, hb⟩; have HO350 := aM (Kd.R_lower (Kd.R_new' ho0 (Kd.R_lt (rl HO347))) (below_size (bl))); replace HO347 := aM (rE (rl HO347) (Kd.R_base ho0) hb); replace HB := aM (bS (bl) hb); (try clear hb); (try clear hb2); (try clear hk); (try clear hi); (try clear ho0); obtain ⟨Ao19, co19, eo19⟩ := Kd.R_slice HO347.out; subst eo19; obtain ⟨Ao20, co20, eo20⟩ := Kd.R_slice HO350.out; subst eo20)))
   go_ret
   exact ⟨by first | rfl | (simp [errW_none, errW_some] <;> rfl) | (simp [*, errW_none, errW_some] <;> rfl), bl⟩
 ·replace c3 := Bool.eq_false_iff.mpr c3
  subst c3
  have H1 : ((mapmakerlaw20_lives.f k).bind fun t344 => (some t344)) = some r := by rw [if_neg (show ¬ (false = true) by decide)] at H; exact H
  clear H
  have H := H1
  clear H1
  replace H := Option.bind_eq_some_iff.mp H
  obtain ⟨t344, A210, H⟩ := H
  try dsimp only at H
  have A21 := aM A210
  clear A210
  obtain rfl := Option.some.inj H
  go_enter Try.func5, Try.ntmps5
  go_wp2_with (first | (go_at_call 8; (with_reducible refine (mapmakerlaw20_few.calls _ _ l0 false _ ?side1 ?side2 A2.out).mono ?_); (case side1 => repeat (first | exact HR0.out | (with_reducible refine cA ?_ _) | (with_reducible refine cN ?_ _) | (with_reducible refine cD ?_))); (case side2 => exact HC0.out); rintro e w' ⟨rfl, ⟨nd, rfl⟩⟩; (try first | exact ⟨rfl, _, World.drewN_drewN _ _ _⟩ | exact ⟨rfl, _, Eq.trans (World.drewN_drewN _ _ _) (congrArg (World.drewN _) (Nat.add_assoc _ _ _))⟩)) | (go_at_call 9; (with_reducible refine (mapmakerlaw20_lives.calls k  t344 _ A21.out).mono ?_); rintro e w22 ⟨rfl, hb⟩; replace HB := aM (bS (bl) hb); (try clear hb); (try clear hb2); (try clear hk); (try clear hi)))
  repeat (go_quiet (first | (go_at_call 8; (with_reducible refine (mapmakerlaw20_few.calls _ _ l0 false _ ?side1 ?side2 A2.out).mono ?_); (case side1 => repeat (first | exact HR0.out | (with_reducible refine cA ?_ _) | (with_reducible refine cN ?_ _) | (with_reducible refine cD ?_))); (case side2 => exact HC0.out); rintro e w' ⟨rfl, ⟨nd, rfl⟩⟩; (try first | exact ⟨rfl, _, World.drewN_drewN _ _ _⟩ | exact ⟨rfl, _, Eq.trans (World.drewN_drewN _ _ _) (congrArg (World.drewN _) (Nat.add_assoc _ _ _))⟩)) | (go_at_call 9; (with_reducible refine (mapmakerlaw20_lives.calls k  t344 _ A21.out).mono ?_); rintro e w22 ⟨rfl, hb⟩; replace HB := aM (bS (bl) hb); (try clear hb); (try clear hb2); (try clear hk); (try clear hi))); try go_wp2_with (first | (go_at_call 8; (with_reducible refine (mapmakerlaw20_few.calls _ _ l0 false _ ?side1 ?side2 A2.out).mono ?_); (case side1 => repeat (first | exact HR0.out | (with_reducible refine cA ?_ _) | (with_reducible refine cN ?_ _) | (with_reducible refine cD ?_))); (case side2 => exact HC0.out); rintro e w' ⟨rfl, ⟨nd, rfl⟩⟩; (try first | exact ⟨rfl, _, World.drewN_drewN _ _ _⟩ | exact ⟨rfl, _, Eq.trans (World.drewN_drewN _ _ _) (congrArg (World.drewN _) (Nat.add_assoc _ _ _))⟩)) | (go_at_call 9; (with_reducible refine (mapmakerlaw20_lives.calls k  t344 _ A21.out).mono ?_); rintro e w22 ⟨rfl, hb⟩; replace HB := aM (bS (bl) hb); (try clear hb); (try clear hb2); (try clear hk); (try clear hi))))
  go_ret
  exact ⟨by first | rfl | (simp [errW_none, errW_some] <;> rfl) | (simp [*, errW_none, errW_some] <;> rfl), bl⟩
def wf33 (x : S33) : Prop := (Lit.int .i64 x.f0).wf = true ∧ (Lit.int .i64 x.f1).wf = true
theorem opens33 : Opens Try.prog 33 k33 wf33 := by
 refine Opens.iso (d := (Kd.pair (Kd.int .i64) (Kd.int .i64))) (W := fun x => (Lit.int .i64 x.1).wf = true ∧ (Lit.int .i64 x.2).wf = true) (f := fun x : S33 => (x.f0, x.f1)) (g := fun x => (⟨x.1, x.2⟩ : S33)) ?_ (fun _ => rfl)
 refine Opens.struct Try.underlying33 (by kernel_rfl) ?_
 exact (OpensF.cons rfl (Opens.int Try.underlying3 (by kernel_rfl)) (OpensF.one rfl (Opens.int Try.underlying3 (by kernel_rfl))))
def wf35 (x : S35) : Prop := wf33 x.f0 ∧ wf33 x.f1
theorem opens35 : Opens Try.prog 35 k35 wf35 := by
 refine Opens.iso (d := (Kd.pair k33 k33)) (W := fun x => wf33 x.1 ∧ wf33 x.2) (f := fun x : S35 => (x.f0, x.f1)) (g := fun x => (⟨x.1, x.2⟩ : S35)) ?_ (fun _ => rfl)
 refine Opens.struct Try.underlying35 (by kernel_rfl) ?_
 exact (OpensF.cons rfl opens33 (OpensF.one rfl opens33))
theorem mapmakerlaw20_NodingCrosses.opens_0 : Opens Try.prog 23 (Kd.slice 35 k35) (fun x => (x.length ≤ maxLen ∧ ∀ y ∈ x, wf35 y)) := (Opens.slice Try.underlying23 (by kernel_rfl) opens35)
def mapmakerlaw20_NodingCrosses.Pure : Prop := ∀ (l0 : List (S35)), (l0.length ≤ maxLen ∧ ∀ y ∈ l0, wf35 y) → ∃ k, mapmakerlaw20_NodingCrosses.f k l0 = some true
theorem mapmakerlaw20_NodingCrosses.walk (P : mapmakerlaw20_NodingCrosses.Pure) (w : World) (A0 : Option Addr) (c0 : Nat) (l0 : List (S35)) (hr0 : Kd.C k35 w A0 l0.length l0) (hc0 : l0.length ≤ c0) (w0 : (l0.length ≤ maxLen ∧ ∀ y ∈ l0, wf35 y)) :
  Calls Try.prog 5 #[.slice A0 l0.length c0] w fun e w' => e = .returned (.bool true) ∧ Below w.heap.size w w' := by
 obtain ⟨k, h⟩ := P l0 w0
 refine (mapmakerlaw20_NodingCrosses.calls k A0 c0 l0 true w hr0 hc0 h).mono ?_
 rintro e w' ⟨rfl, hd⟩
 exact ⟨rfl, hd⟩
end Go.Proofs.Ytmejeiddlhjjmaa.PNodingCrosses
