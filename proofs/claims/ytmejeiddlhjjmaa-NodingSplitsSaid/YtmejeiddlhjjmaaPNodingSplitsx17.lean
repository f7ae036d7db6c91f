import Derived.Test.YtmejeiddlhjjmaaPNodingSplitsx0
import Derived.Test.YtmejeiddlhjjmaaPNodingSplitsx3
import Derived.Test.YtmejeiddlhjjmaaPNodingSplitsx6
import Derived.Test.YtmejeiddlhjjmaaPNodingSplitsx9
import Derived.Test.YtmejeiddlhjjmaaPNodingSplitsx10
import Derived.Test.YtmejeiddlhjjmaaPNodingSplitsx13
import Derived.Test.YtmejeiddlhjjmaaPNodingSplitsx14
import Derived.Test.YtmejeiddlhjjmaaPNodingSplitsx15
import Derived.Test.YtmejeiddlhjjmaaPNodingSplitsx16
namespace Go.Proofs.Ytmejeiddlhjjmaa.PNodingSplits
open Go.Proofs.YtmejeiddlhjjmaaG Go.Shelf Go.Lib
open Go.RowKit Go.Proofs.YtmejeiddlhjjmaaW.PrintWords Go.Proofs.YtmejeiddlhjjmaaW.PrintLast Go.Proofs.YtmejeiddlhjjmaaW.PrintMore
attribute [local go_sem] max2_int min2_int max_two min_two max_three min_three max_four min_four
set_option linter.unusedVariables false
set_option linter.unusedSimpArgs false
mutual
def mapmakerref20_Crossings.l0 : Nat → List (S35) → List (S36) → Int → Option ((List (S36)))
 | 0, _, _, _ => none
 | k + 1, x3, x4, x5 => if x5 < (x3.length : Int) then (mapmakerref20_Crossings.l1 k x3 x4 x5 (wrap64 (x5 + 1))) else (some x4)
def mapmakerref20_Crossings.l1 : Nat → List (S35) → List (S36) → Int → Int → Option ((List (S36)))
 | 0, _, _, _, _ => none
 | k + 1, x3, x4, x5, x6 => if x6 < (x3.length : Int) then (if 0 ≤ x5 then (if x5 < (x3.length : Int) then (if 0 ≤ x6 then ((mapmakerref09_Relate.f k ((rd_T35 x3 x5).f0.f0) ((rd_T35 x3 x5).f0.f1) ((rd_T35 x3 x5).f1.f0) ((rd_T35 x3 x5).f1.f1) ((rd_T35 x3 x6).f0.f0) ((rd_T35 x3 x6).f0.f1) ((rd_T35 x3 x6).f1.f0) ((rd_T35 x3 x6).f1.f1)).bind fun t326 => (if t326 ≥ 2 then (if x4.length < 2199023255552 then (mapmakerref20_Crossings.l1 k x3 (x4 ++ [(⟨(⟨(⟨(rd_T35 x3 x5).f0.f0, (rd_T35 x3 x5).f0.f1⟩ : S33), (⟨(rd_T35 x3 x5).f1.f0, (rd_T35 x3 x5).f1.f1⟩ : S33)⟩ : S35), (⟨(⟨(rd_T35 x3 x6).f0.f0, (rd_T35 x3 x6).f0.f1⟩ : S33), (⟨(rd_T35 x3 x6).f1.f0, (rd_T35 x3 x6).f1.f1⟩ : S33)⟩ : S35)⟩ : S36)]) x5 (wrap64 (x6 + 1))) else (none)) else (mapmakerref20_Crossings.l1 k x3 x4 x5 (wrap64 (x6 + 1))))) else (none)) else (none)) else (none)) else (mapmakerref20_Crossings.l0 k x3 x4 (wrap64 (x5 + 1)))
end
def mapmakerref20_Crossings.f (k : Nat) (l0 : List (S35)) : Option ((List (S36))) := (mapmakerref20_Unique.f k l0).bind fun t321 => (mapmakerref20_Crossings.l0 k t321 ([] : List (S36)) 0)
theorem mapmakerref20_Crossings.mono_l : ∀ k, (∀ y0 y1 y2, LeO (mapmakerref20_Crossings.l0 k y0 y1 y2) (mapmakerref20_Crossings.l0 (k + 1) y0 y1 y2)) ∧ (∀ y0 y1 y2 y3, LeO (mapmakerref20_Crossings.l1 k y0 y1 y2 y3) (mapmakerref20_Crossings.l1 (k + 1) y0 y1 y2 y3))
 | 0 => ⟨fun _ _ _ r h => by simp [mapmakerref20_Crossings.l0] at h, fun _ _ _ _ r h => by simp [mapmakerref20_Crossings.l1] at h⟩
 | k + 1 => by
  obtain ⟨ih0, ih1⟩ := mapmakerref20_Crossings.mono_l k
  refine ⟨?_, ?_⟩
  ·intro y0 y1 y2
   unfold mapmakerref20_Crossings.l0
   repeat' first
   | (with_reducible exact ih0 _ _ _)
   | (with_reducible exact ih1 _ _ _ _)
   | (with_reducible exact mapmakerref09_Relate.mono _ _ _ _ _ _ _ _ _)
   | (with_reducible exact mapmakerref20_Unique.mono _ _)
   | (with_reducible exact LeO.refl _)
   | (with_reducible exact LeO.none _)
   | (with_reducible refine LeO.ite ?_ ?_)
   | (with_reducible refine LeO.bind ?_ (fun _ => ?_))
   | exact ih0 _ _ _
   | exact ih1 _ _ _ _
   | exact mapmakerref09_Relate.mono _ _ _ _ _ _ _ _ _
   | exact mapmakerref20_Unique.mono _ _
   | exact LeO.none _
   | refine LeO.ite ?_ ?_
   | refine LeO.bind ?_ (fun _ => ?_)
  ·intro y0 y1 y2 y3
   unfold mapmakerref20_Crossings.l1
   repeat' first
   | (with_reducible exact ih0 _ _ _)
   | (with_reducible exact ih1 _ _ _ _)
   | (with_reducible exact mapmakerref09_Relate.mono _ _ _ _ _ _ _ _ _)
   | (with_reducible exact mapmakerref20_Unique.mono _ _)
   | (with_reducible exact LeO.refl _)
   | (with_reducible exact LeO.none _)
   | (with_reducible refine LeO.ite ?_ ?_)
   | (with_reducible refine LeO.bind ?_ (fun _ => ?_))
   | exact ih0 _ _ _
   | exact ih1 _ _ _ _
   | exact mapmakerref09_Relate.mono _ _ _ _ _ _ _ _ _
   | exact mapmakerref20_Unique.mono _ _
   | exact LeO.none _
   | refine LeO.ite ?_ ?_
   | refine LeO.bind ?_ (fun _ => ?_)
theorem mapmakerref20_Crossings.mono : ∀ a0 k, LeO (mapmakerref20_Crossings.f k a0) (mapmakerref20_Crossings.f (k + 1) a0) := by
 intro a0 k
 obtain ⟨ih0, ih1⟩ := mapmakerref20_Crossings.mono_l k
 unfold mapmakerref20_Crossings.f
 repeat' first
   | (with_reducible exact ih0 _ _ _)
   | (with_reducible exact ih1 _ _ _ _)
   | (with_reducible exact mapmakerref09_Relate.mono _ _ _ _ _ _ _ _ _)
   | (with_reducible exact mapmakerref20_Unique.mono _ _)
   | (with_reducible exact LeO.refl _)
   | (with_reducible exact LeO.none _)
   | (with_reducible refine LeO.ite ?_ ?_)
   | (with_reducible refine LeO.bind ?_ (fun _ => ?_))
   | exact ih0 _ _ _
   | exact ih1 _ _ _ _
   | exact mapmakerref09_Relate.mono _ _ _ _ _ _ _ _ _
   | exact mapmakerref20_Unique.mono _ _
   | exact LeO.none _
   | refine LeO.ite ?_ ?_
   | refine LeO.bind ?_ (fun _ => ?_)
def mapmakerref20_Crossings.T9 : Bool × List (List Nat × List Nat) := (true, [([], []), ([], []), ([0, 1], [0, 1]), ([2], [2]), ([], []), ([], []), ([4, 5], [4, 5]), ([6], [6]), ([3, 7], [3, 7]), ([8], [8])])
def mapmakerref20_Crossings.B9 : List Nat := [0, 0, 3, 7, 0, 0, 48, 112, 255, 511]
theorem mapmakerref20_Crossings.tab9 : rtab .any (opsOf Try.f24 9) = mapmakerref20_Crossings.T9 := by kernel_rfl
theorem mapmakerref20_Crossings.bits9 : waitsOk mapmakerref20_Crossings.T9.2 mapmakerref20_Crossings.B9 = true := by kernel_rfl
def mapmakerref20_Crossings.T10 : Bool × List (List Nat × List Nat) := (true, [([], []), ([], []), ([], []), ([1, 2], [1, 2]), ([3], [3]), ([], []), ([], []), ([5, 6], [5, 6]), ([7], [7]), ([4, 8], [4, 8]), ([9], [9]), ([0, 10], [0, 10]), ([11, 11, 0, 1, 2, 3, 4, 5, 6, 7, 8, 9, 10, 11], [0, 11])])
def mapmakerref20_Crossings.B10 : List Nat := [0, 0, 0, 6, 14, 0, 0, 96, 224, 510, 1022, 2047, 4095]
theorem mapmakerref20_Crossings.tab10 : rtab .any (opsOf Try.f24 10) = mapmakerref20_Crossings.T10 := by kernel_rfl
theorem mapmakerref20_Crossings.bits10 : waitsOk mapmakerref20_Crossings.T10.2 mapmakerref20_Crossings.B10 = true := by kernel_rfl
set_option maxHeartbeats 8000000 in
set_option maxRecDepth 100000 in
theorem mapmakerref20_Crossings.calls (k : Nat) (A0 : Option Addr) (c0 : Nat) (l0 : List (S35)) (r : List (S36)) (w : World) (hr0 : Kd.C k35 w A0 l0.length l0) (hc0 : l0.length ≤ c0) (h : mapmakerref20_Crossings.f k l0 = some r) :
  Calls Try.prog 24 #[.slice A0 l0.length c0] w fun e w' => ∃ v0_ : Value, e = .returned (v0_) ∧ Kd.R k36 36 w' w.heap.size (fun _ => True) v0_ r ∧ Below w.heap.size w w' := by
 have hu35 := Try.underlying35
 have hu36 := Try.underlying36
 have HR0 := aM hr0
 have HC0 := aM hc0
 clear hr0 hc0
 have HB := aM (Below.refl w.heap.size w)
 have H : ((mapmakerref20_Unique.f k l0).bind fun t321 => (mapmakerref20_Crossings.l0 k t321 ([] : List (S36)) 0)) = some r := h
 clear h
 replace H := Option.bind_eq_some_iff.mp H
 obtain ⟨t321, A20, H⟩ := H
 try dsimp only at H
 have A2 := aM A20
 clear A20
 have H' := aM H
 clear H
 go_enter Try.func24, Try.ntmps24
 go_wp2_with (first | ((with_reducible refine gate_callee (f := 16) rfl ?_); refine goesL_ (some 8) rfl rfl Try.func16 (by kernel_rfl) rfl #[.slice A0 l0.length c0] rfl (by (try simp only [List.map_toArray, List.map_cons, List.map_nil]); first | done | rfl | (simp only [List.length_drop, List.length_take]; rfl)) ?_; (with_reducible refine (mapmakerref20_Unique.calls k _ _ l0 t321 _ ?side1 ?side2 A2.out).mono ?_); (case side1 => repeat (first | exact HR0.out | (with_reducible refine cA ?_ _) | (with_reducible refine cN ?_ _) | (with_reducible refine cD ?_))); (case side2 => exact HC0.out); rintro e w3 ⟨v322, rfl, ho0, hb⟩; refine ⟨_, rfl, ?_⟩; have HO323 := aM (Kd.R_lower ho0 (below_size (bl))); replace HB := aM (bS (bl) hb); (try clear hb); (try clear hb2); (try clear hk); (try clear hi); (try clear ho0)))
 go_loopg [4, 5] k (fun kq v4 v5 w' => ∃ (x4_1 : List (S36)) (x5_1 : Int), v5 = .int .i64 x5_1 ∧ Aside0 (mapmakerref20_Crossings.l0 kq t321 x4_1 x5_1 = some r) ∧ Aside0 (kq ≤ k) ∧ Aside0 (Kd.R k35 35 w' w.heap.size (fun _ => True) v322 t321) ∧ Aside0 (Kd.R k36 36 w' w.heap.size (fun _ => True) v4 x4_1) ∧ Aside0 (Below w.heap.size w w'))
 case atStart => exact ⟨(([] : List (S36))), (0), (by first | rfl | (simp; done) | (simp [*]; done)), H', ⟨Nat.le_refl _⟩, ⟨by (with_reducible repeat (first | apply rA | apply rN | apply rD)); exact HO323.out⟩, ⟨by first | exact Kd.R_nil _ _ _ _ _ | exact Kd.N_nil _ _ _ _ _ | exact Kd.V_nil _ _ _ _ _ | exact Kd.Q_nil _ _ _ _ _ | exact Kd.S_nil _ _ _ _ _⟩, ⟨bl⟩⟩
 case round =>
  clear H'
  try clear c1
  try clear c2
  try clear p2
  obtain ⟨x4_1, x5_1, rfl, HA, HK1, HO_3, HO_4, HB⟩ := hrel
  cases gk with
  | zero => exact absurd HA.out (by simp [mapmakerref20_Crossings.l0])
  | succ k1 =>
   have H := HA.out
   clear HA
   simp only [mapmakerref20_Crossings.l0] at H
   by_cases c4 : x5_1 < (t321.length : Int)
   ·rw [if_pos c4] at H
    have c4b0 : decide (x5_1 < (t321.length : Int)) = true := decide_eq_true c4
    clear c4
    have H' := aM H
    clear H
    obtain ⟨Ao5, co5, eo5⟩ := Kd.R_slice HO_3.out
    subst eo5
    go_wp2
    go_loopg [4, 6] k1 (fun kq v4 v6 w' => ∃ (x4_2 : List (S36)) (x6_2 : Int), v6 = .int .i64 x6_2 ∧ Aside0 (mapmakerref20_Crossings.l1 kq t321 x4_2 x5_1 x6_2 = some r) ∧ Aside0 (kq ≤ k1) ∧ Aside0 (Kd.R k35 35 w' w.heap.size (fun _ => True) (.slice Ao5 t321.length co5) t321) ∧ Aside0 (Kd.R k36 36 w' w.heap.size (fun _ => True) v4 x4_2) ∧ Aside0 (Below w.heap.size w w'))
    case atStart => exact ⟨(x4_1), (wrap64 (x5_1 + 1)), (by first | rfl | (simp; done) | (simp [*]; done)), H', ⟨Nat.le_refl _⟩, ⟨by (with_reducible repeat (first | apply rA | apply rN | apply rD)); exact HO_3.out⟩, ⟨by (with_reducible repeat (first | apply rA | apply rN | apply rD)); exact HO_4.out⟩, ⟨bl⟩⟩
    case round =>
     clear H'
     try clear c1
     try clear c2
     try clear p2
     try clear c4
     try clear c4b0
     try clear p2
     obtain ⟨x4_2, x6_2, rfl, HA, HK2, HO_3, HO_4, HB⟩ := hrel
     cases gk with
     | zero => exact absurd HA.out (by simp [mapmakerref20_Crossings.l1])
     | succ k2 =>
      have H := HA.out
      clear HA
      simp only [mapmakerref20_Crossings.l1] at H
      by_cases c6 : x6_2 < (t321.length : Int)
      ·rw [if_pos c6] at H
       have c6b0 : decide (x6_2 < (t321.length : Int)) = true := decide_eq_true c6
       clear c6
       by_cases c7 : 0 ≤ x5_1
       ·rw [if_pos c7] at H
        have c7b0 : decide (0 ≤ x5_1) = true := decide_eq_true c7
        clear c7
        by_cases c8 : x5_1 < (t321.length : Int)
        ·rw [if_pos c8] at H
         have c8b0 : decide (x5_1 < (t321.length : Int)) = true := decide_eq_true c8
         clear c8
         by_cases c9 : 0 ≤ x6_2
         ·rw [if_pos c9] at H
          have c9b0 : decide (0 ≤ x6_2) = true := decide_eq_true c9
          clear c9
          replace H := Option.bind_eq_some_iff.mp H
          obtain ⟨t326, A100, H⟩ := H
          try dsimp only at H
          have A10 := aM A100
          clear A100
          by_cases c11 : t326 ≥ 2
          ·rw [if_pos c11] at H
           have c11b0 : decide (2 ≤ t326) = true := decide_eq_true c11
           clear c11
           by_cases c12 : x4_2.length < 2199023255552
           ·rw [if_pos c12] at H
            have LMc12 := aM c12
            clear c12
            obtain ⟨y329, hy329⟩ : ∃ y_ : List (S36), y_ = (x4_2 ++ [(⟨(⟨(⟨(rd_T35 t321 x5_1).f0.f0, (rd_T35 t321 x5_1).f0.f1⟩ : S33), (⟨(rd_T35 t321 x5_1).f1.f0, (rd_T35 t321 x5_1).f1.f1⟩ : S33)⟩ : S35), (⟨(⟨(rd_T35 t321 x6_2).f0.f0, (rd_T35 t321 x6_2).f0.f1⟩ : S33), (⟨(rd_T35 t321 x6_2).f1.f0, (rd_T35 t321 x6_2).f1.f1⟩ : S33)⟩ : S35)⟩ : S36)]) := ⟨_, rfl⟩
            replace H : (mapmakerref20_Crossings.l1 k2 t321 y329 x5_1 (wrap64 (x6_2 + 1))) = some r := by first | (rw [hy329]; with_reducible exact H) | (have H2_ := (Option.bind_some _ _).symm.trans H; rw [hy329]; with_reducible exact H2_) | (have H2_ := (Option.bind_some _ _).symm.trans H; with_reducible exact H2_) | with_reducible exact H | (rw [hy329]; exact H) | exact H
            have Ny329 := aM hy329
            clear hy329
            have H' := aM H
            clear H
            try go_wp2
            replace HO_3 := aM (rD HO_3.out)
            replace HO_4 := aM (rD HO_4.out)
            replace HB := aM (bD HB.out)
            have p324 : 0 ≤ (x5_1 : Int) := of_decide_eq_true (by first | (with_reducible assumption) | assumption)
            have q324 : x5_1 < (t321.length : Int) := of_decide_eq_true (by first | (with_reducible assumption) | assumption)
            obtain ⟨ad324, e324, hx324_0, hx324_1, hx324_2, hx324_3⟩ := at_T35 (rR HO_3.out).2.2 x5_1 p324 q324
            cases e324
            replace p324 := eq_true p324
            replace q324 := eq_true q324
            have p325 : 0 ≤ (x6_2 : Int) := of_decide_eq_true (by first | (with_reducible assumption) | assumption)
            have q325 : x6_2 < (t321.length : Int) := of_decide_eq_true (by first | (with_reducible assumption) | assumption)
            obtain ⟨ad325, e325, hx325_0, hx325_1, hx325_2, hx325_3⟩ := at_T35 (rR HO_3.out).2.2 x6_2 p325 q325
            obtain rfl : ad324 = ad325 := (by injection e325)
            replace p325 := eq_true p325
            replace q325 := eq_true q325
            refine start_ (n := 10) (S := fun w' => w'.cell? (ad324.add ((x5_1).toNat * 4)) = some (.int .i64 ((rd_T35 t321 x5_1).f0.f0)) ∧ w'.cell? ⟨(ad324.add ((x5_1).toNat * 4)).block, (ad324.add ((x5_1).toNat * 4)).off + 1, none⟩ = some (.int .i64 ((rd_T35 t321 x5_1).f0.f1)) ∧ w'.cell? ⟨(ad324.add ((x5_1).toNat * 4)).block, (ad324.add ((x5_1).toNat * 4)).off + 2, none⟩ = some (.int .i64 ((rd_T35 t321 x5_1).f1.f0)) ∧ w'.cell? ⟨(ad324.add ((x5_1).toNat * 4)).block, (ad324.add ((x5_1).toNat * 4)).off + 3, none⟩ = some (.int .i64 ((rd_T35 t321 x5_1).f1.f1)) ∧ w'.cell? (ad324.add ((x6_2).toNat * 4)) = some (.int .i64 ((rd_T35 t321 x6_2).f0.f0)) ∧ w'.cell? ⟨(ad324.add ((x6_2).toNat * 4)).block, (ad324.add ((x6_2).toNat * 4)).off + 1, none⟩ = some (.int .i64 ((rd_T35 t321 x6_2).f0.f1)) ∧ w'.cell? ⟨(ad324.add ((x6_2).toNat * 4)).block, (ad324.add ((x6_2).toNat * 4)).off + 2, none⟩ = some (.int .i64 ((rd_T35 t321 x6_2).f1.f0)) ∧ w'.cell? ⟨(ad324.add ((x6_2).toNat * 4)).block, (ad324.add ((x6_2).toNat * 4)).off + 3, none⟩ = some (.int .i64 ((rd_T35 t321 x6_2).f1.f1))) (ds := []) #[false, false, false, false, false, false, false, false, false, false] (by kernel_rfl) rfl rfl ⟨hx324_0, hx324_1, hx324_2, hx324_3, hx325_0, hx325_1, hx325_2, hx325_3⟩ (fun hHeld => ?_); refine with_tabW mapmakerref20_Crossings.tab9 mapmakerref20_Crossings.bits9 (fun HT_ HW_ => ?_)
            generalize wr.drew = w13 at HO_3 HO_4 HB hx324_0 hx324_1 hx324_2 hx324_3 hx325_0 hx325_1 hx325_2 hx325_3 hHeld ⊢
            refine pure_ (i := 0) (N := some 23) (v := ?_) (a' := ?_) (ba 10 1) rfl rfl (any_of HT_.out (by kernel_rfl)) (fun _ _ _ h => h) (Or.inl ⟨by rfl, ?_⟩) ?_ ?_
            rotate_left
            ·intro w'
             go_simp
             with_reducible rfl
            rotate_left
            ·simp only [Act.put, sA, sB, sC, i64_w, i32_w]
             rfl
            refine pure_ (i := 1) (N := some 24) (v := ?_) (a' := ?_) (ba 10 3) rfl rfl (any_of HT_.out (by kernel_rfl)) (fun _ _ _ h => h) (Or.inl ⟨by rfl, ?_⟩) ?_ ?_
            rotate_left
            ·intro w'
             go_simp
             with_reducible rfl
            rotate_left
            ·simp only [Act.put, sA, sB, sC, i64_w, i32_w]
             rfl
            refine pure_ (i := 2) (N := some 25) (v := ?_) (a' := ?_) (ba 10 7) rfl rfl (any_of HT_.out (by kernel_rfl)) (fun _ _ _ h => h) (Or.inl ⟨by rfl, ?_⟩) ?_ ?_
            rotate_left
            ·intro w'
             go_simp
             with_reducible rfl
            rotate_left
            ·simp only [Act.put, sA, sB, sC, i64_w, i32_w]
             rfl
            refine pure_ (i := 4) (N := some 27) (v := ?_) (a' := ?_) (ba 10 23) rfl rfl (any_of HT_.out (by kernel_rfl)) (fun _ _ _ h => h) (Or.inl ⟨by rfl, ?_⟩) ?_ ?_
            rotate_left
            ·intro w'
             go_simp
             with_reducible rfl
            rotate_left
            ·simp only [Act.put, sA, sB, sC, i64_w, i32_w]
             rfl
            refine pure_ (i := 5) (N := some 28) (v := ?_) (a' := ?_) (ba 10 55) rfl rfl (any_of HT_.out (by kernel_rfl)) (fun _ _ _ h => h) (Or.inl ⟨by rfl, ?_⟩) ?_ ?_
            rotate_left
            ·intro w'
             go_simp
             with_reducible rfl
            rotate_left
            ·simp only [Act.put, sA, sB, sC, i64_w, i32_w]
             rfl
            refine pure_ (i := 6) (N := some 29) (v := ?_) (a' := ?_) (ba 10 119) rfl rfl (any_of HT_.out (by kernel_rfl)) (fun _ _ _ h => h) (Or.inl ⟨by rfl, ?_⟩) ?_ ?_
            rotate_left
            ·intro w'
             go_simp
             with_reducible rfl
            rotate_left
            ·simp only [Act.put, sA, sB, sC, i64_w, i32_w]
             rfl
            refine take_ (i := 3) (N := some 26) (v := ?_) (a' := ?_) (ba 10 127) rfl rfl (take_ofW HT_.out HW_.out (by kernel_rfl)) (fun _ _ _ h => h) (Or.inl ⟨by rfl, ?_⟩) hHeld ?_ ?_
            rotate_left
            ·rintro w' ⟨s0, s1, s2, s3, s4, s5, s6, s7⟩
             go_simp
             with_reducible rfl
            rotate_left
            ·simp only [Act.put, sA, sB, sC, i64_w, i32_w]
             rfl
            refine take_ (i := 7) (N := some 30) (v := ?_) (a' := ?_) (ba 10 255) rfl rfl (take_ofW HT_.out HW_.out (by kernel_rfl)) (fun _ _ _ h => h) (Or.inl ⟨by rfl, ?_⟩) hHeld ?_ ?_
            rotate_left
            ·rintro w' ⟨s0, s1, s2, s3, s4, s5, s6, s7⟩
             go_simp
             with_reducible rfl
            rotate_left
            ·simp only [Act.put, sA, sB, sC, i64_w, i32_w]
             rfl
            refine one_ (i := 8) (N := some 31) (ba 10 511) rfl rfl (one_of HT_.out (by kernel_rfl)) (by decide) (fun K hK => ?_)
            refine goes_ Try.func27 (by kernel_rfl) rfl #[.agg #[.int .i64 ((rd_T35 t321 x5_1).f0.f0), .int .i64 ((rd_T35 t321 x5_1).f0.f1), .int .i64 ((rd_T35 t321 x5_1).f1.f0), .int .i64 ((rd_T35 t321 x5_1).f1.f1)], .agg #[.int .i64 ((rd_T35 t321 x6_2).f0.f0), .int .i64 ((rd_T35 t321 x6_2).f0.f1), .int .i64 ((rd_T35 t321 x6_2).f1.f0), .int .i64 ((rd_T35 t321 x6_2).f1.f1)]] (by rfl) rfl rfl (by (try simp only [List.map_toArray, List.map_cons, List.map_nil]); first | done | rfl | (simp only [List.length_drop, List.length_take]; rfl)) ?_
            with_reducible refine (mapmakerref09_Relate.calls k2 ((rd_T35 t321 x5_1).f0.f0) ((rd_T35 t321 x5_1).f0.f1) ((rd_T35 t321 x5_1).f1.f0) ((rd_T35 t321 x5_1).f1.f1) ((rd_T35 t321 x6_2).f0.f0) ((rd_T35 t321 x6_2).f0.f1) ((rd_T35 t321 x6_2).f1.f0) ((rd_T35 t321 x6_2).f1.f1) t326 _ A10.out).mono ?_
            rintro e w14 ⟨rfl, hb⟩
            obtain ⟨q0, q1, q2, q3, q4, q5, q6, q7⟩ := hHeld
            have HS_ := And.intro (hs hb q0) <| And.intro (hs hb q1) <| And.intro (hs hb q2) <| And.intro (hs hb q3) <| And.intro (hs hb q4) <| And.intro (hs hb q5) <| And.intro (hs hb q6) <| hs hb q7
            refine ⟨_, rfl, ?_⟩
            replace HO_3 := aM (rB (rl HO_3) hb)
            replace HO_4 := aM (rB (rl HO_4) hb)
            replace HB := aM (bS (bl) hb)
            (try clear hb)
            (try clear hb2)
            (try clear hk)
            (try clear hi)
            refine hK.out _ _ HS_ (fun hHeld => ?_)
            clear hK K
            refine norm_ (a' := ?_) ?_ ?_
            rotate_left
            ·show Act.put _ (some 31) _ = _
             simp only [Act.put, sA, sB, sC, i64_w, i32_w]
             rfl
            refine pure_ (i := 9) (N := some 32) (v := ?_) (a' := ?_) (ba 10 1023) rfl rfl (any_of HT_.out (by kernel_rfl)) (fun _ _ _ h => h) (Or.inl ⟨by rfl, ?_⟩) ?_ ?_
            rotate_left
            ·intro w'
             go_simp
             with_reducible rfl
            rotate_left
            ·simp only [Act.put, sA, sB, sC, i64_w, i32_w]
             rfl
            refine done_ (done_of HT_.out (by kernel_rfl)) ?_
            try go_wp2
            replace HO_3 := aM (rD HO_3.out)
            replace HO_4 := aM (rD HO_4.out)
            replace HB := aM (bD HB.out)
            have p327 : 0 ≤ (x5_1 : Int) := of_decide_eq_true (by first | (with_reducible assumption) | assumption)
            have q327 : x5_1 < (t321.length : Int) := of_decide_eq_true (by first | (with_reducible assumption) | assumption)
            obtain ⟨ad327, e327, hx327_0, hx327_1, hx327_2, hx327_3⟩ := at_T35 (rR HO_3.out).2.2 x5_1 p327 q327
            obtain rfl : ad324 = ad327 := (by injection e327)
            replace p327 := eq_true p327
            replace q327 := eq_true q327
            have p328 : 0 ≤ (x6_2 : Int) := of_decide_eq_true (by first | (with_reducible assumption) | assumption)
            have q328 : x6_2 < (t321.length : Int) := of_decide_eq_true (by first | (with_reducible assumption) | assumption)
            obtain ⟨ad328, e328, hx328_0, hx328_1, hx328_2, hx328_3⟩ := at_T35 (rR HO_3.out).2.2 x6_2 p328 q328
            obtain rfl : ad324 = ad328 := (by injection e328)
            replace p328 := eq_true p328
            replace q328 := eq_true q328
            refine start_ (n := 13) (S := fun w' => w'.cell? (ad324.add ((x5_1).toNat * 4)) = some (.int .i64 ((rd_T35 t321 x5_1).f0.f0)) ∧ w'.cell? ⟨(ad324.add ((x5_1).toNat * 4)).block, (ad324.add ((x5_1).toNat * 4)).off + 1, none⟩ = some (.int .i64 ((rd_T35 t321 x5_1).f0.f1)) ∧ w'.cell? ⟨(ad324.add ((x5_1).toNat * 4)).block, (ad324.add ((x5_1).toNat * 4)).off + 2, none⟩ = some (.int .i64 ((rd_T35 t321 x5_1).f1.f0)) ∧ w'.cell? ⟨(ad324.add ((x5_1).toNat * 4)).block, (ad324.add ((x5_1).toNat * 4)).off + 3, none⟩ = some (.int .i64 ((rd_T35 t321 x5_1).f1.f1)) ∧ w'.cell? (ad324.add ((x6_2).toNat * 4)) = some (.int .i64 ((rd_T35 t321 x6_2).f0.f0)) ∧ w'.cell? ⟨(ad324.add ((x6_2).toNat * 4)).block, (ad324.add ((x6_2).toNat * 4)).off + 1, none⟩ = some (.int .i64 ((rd_T35 t321 x6_2).f0.f1)) ∧ w'.cell? ⟨(ad324.add ((x6_2).toNat * 4)).block, (ad324.add ((x6_2).toNat * 4)).off + 2, none⟩ = some (.int .i64 ((rd_T35 t321 x6_2).f1.f0)) ∧ w'.cell? ⟨(ad324.add ((x6_2).toNat * 4)).block, (ad324.add ((x6_2).toNat * 4)).off + 3, none⟩ = some (.int .i64 ((rd_T35 t321 x6_2).f1.f1))) (ds := [10, 11]) #[false, false, false, false, false, false, false, false, false, false, false, false, false] (by kernel_rfl) rfl rfl ⟨hx327_0, hx327_1, hx327_2, hx327_3, hx328_0, hx328_1, hx328_2, hx328_3⟩ (fun hHeld => ?_); refine with_tabW mapmakerref20_Crossings.tab10 mapmakerref20_Crossings.bits10 (fun HT_ HW_ => ?_)
            generalize w14.drew = w15 at HO_3 HO_4 HB hx327_0 hx327_1 hx327_2 hx327_3 hx328_0 hx328_1 hx328_2 hx328_3 hHeld ⊢
            refine pure_ (i := 0) (N := some 33) (v := ?_) (a' := ?_) (ba 13 1) rfl rfl (any_of HT_.out (by kernel_rfl)) (fun _ _ _ h => h) (Or.inl ⟨by rfl, ?_⟩) ?_ ?_
            rotate_left
            ·intro w'
             go_simp
             with_reducible rfl
            rotate_left
            ·simp only [Act.put, sA, sB, sC, i64_w, i32_w]
             rfl
            refine pure_ (i := 1) (N := some 34) (v := ?_) (a' := ?_) (ba 13 3) rfl rfl (any_of HT_.out (by kernel_rfl)) (fun _ _ _ h => h) (Or.inl ⟨by rfl, ?_⟩) ?_ ?_
            rotate_left
            ·intro w'
             go_simp
             with_reducible rfl
            rotate_left
            ·simp only [Act.put, sA, sB, sC, i64_w, i32_w]
             rfl
            refine pure_ (i := 2) (N := some 35) (v := ?_) (a' := ?_) (ba 13 7) rfl rfl (any_of HT_.out (by kernel_rfl)) (fun _ _ _ h => h) (Or.inl ⟨by rfl, ?_⟩) ?_ ?_
            rotate_left
            ·intro w'
             go_simp
             with_reducible rfl
            rotate_left
            ·simp only [Act.put, sA, sB, sC, i64_w, i32_w]
             rfl
            refine pure_ (i := 3) (N := some 36) (v := ?_) (a' := ?_) (ba 13 15) rfl rfl (any_of HT_.out (by kernel_rfl)) (fun _ _ _ h => h) (Or.inl ⟨by rfl, ?_⟩) ?_ ?_
            rotate_left
            ·intro w'
             go_simp
             with_reducible rfl
            rotate_left
            ·simp only [Act.put, sA, sB, sC, i64_w, i32_w]
             rfl
            refine pure_ (i := 5) (N := some 38) (v := ?_) (a' := ?_) (ba 13 47) rfl rfl (any_of HT_.out (by kernel_rfl)) (fun _ _ _ h => h) (Or.inl ⟨by rfl, ?_⟩) ?_ ?_
            rotate_left
            ·intro w'
             go_simp
             with_reducible rfl
            rotate_left
            ·simp only [Act.put, sA, sB, sC, i64_w, i32_w]
             rfl
            refine pure_ (i := 6) (N := some 39) (v := ?_) (a' := ?_) (ba 13 111) rfl rfl (any_of HT_.out (by kernel_rfl)) (fun _ _ _ h => h) (Or.inl ⟨by rfl, ?_⟩) ?_ ?_
            rotate_left
            ·intro w'
             go_simp
             with_reducible rfl
            rotate_left
            ·simp only [Act.put, sA, sB, sC, i64_w, i32_w]
             rfl
            refine pure_ (i := 7) (N := some 40) (v := ?_) (a' := ?_) (ba 13 239) rfl rfl (any_of HT_.out (by kernel_rfl)) (fun _ _ _ h => h) (Or.inl ⟨by rfl, ?_⟩) ?_ ?_
            rotate_left
            ·intro w'
             go_simp
             with_reducible rfl
            rotate_left
            ·simp only [Act.put, sA, sB, sC, i64_w, i32_w]
             rfl
            refine take_ (i := 4) (N := some 37) (v := ?_) (a' := ?_) (ba 13 255) rfl rfl (take_ofW HT_.out HW_.out (by kernel_rfl)) (fun _ _ _ h => h) (Or.inl ⟨by rfl, ?_⟩) hHeld ?_ ?_
            rotate_left
            ·rintro w' ⟨s0, s1, s2, s3, s4, s5, s6, s7⟩
             go_simp
             with_reducible rfl
            rotate_left
            ·simp only [Act.put, sA, sB, sC, i64_w, i32_w]
             rfl
            refine take_ (i := 8) (N := some 41) (v := ?_) (a' := ?_) (ba 13 511) rfl rfl (take_ofW HT_.out HW_.out (by kernel_rfl)) (fun _ _ _ h => h) (Or.inl ⟨by rfl, ?_⟩) hHeld ?_ ?_
            rotate_left
            ·rintro w' ⟨s0, s1, s2, s3, s4, s5, s6, s7⟩
             go_simp
             with_reducible rfl
            rotate_left
            ·simp only [Act.put, sA, sB, sC, i64_w, i32_w]
             rfl
            refine pure_ (i := 9) (N := some 42) (v := ?_) (a' := ?_) (ba 13 1023) rfl rfl (any_of HT_.out (by kernel_rfl)) (fun _ _ _ h => h) (Or.inl ⟨by rfl, ?_⟩) ?_ ?_
            rotate_left
            ·intro w'
             go_simp
             with_reducible rfl
            rotate_left
            ·simp only [Act.put, sA, sB, sC, i64_w, i32_w]
             rfl
            refine last_ (i := 10) (N := some 43) (ba 13 2047) rfl rfl (one_of HT_.out (by kernel_rfl)) (by decide) (fun K hK => ?_)
            refine value_ (w1 := ?_) (v := ?_) (by rfl) rfl ?_ ?_
            rotate_left 2
            ·go_simp
             constructor
             ·rfl
             ·rfl
            refine hK.out _ _ ?_
            clear hK K
            refine norm_ (a' := ?_) ?_ ?_
            rotate_left
            ·show Act.put _ (some 43) _ = _
             simp only [Act.put, sA, sB, sC, i64_w, i32_w]
             rfl
            refine last_ (i := 11) (N := some 44) (ba 13 4095) rfl rfl (one_of HT_.out (by kernel_rfl)) (by decide) (fun K hK => ?_)
            refine Kd.R_append_step k36 (w0 := w) w.heap.size (by rfl) (.tmp 33) (.tmp 43) 30 36 (.agg #[(.int .i64 0), (.int .i64 0), (.int .i64 0), (.int .i64 0), (.int .i64 0), (.int .i64 0), (.int .i64 0), (.int .i64 0)]) 64 rfl Try.underlying30 info36 rfl (by decide) (by omega) u4 x4_2 (⟨(⟨(⟨(rd_T35 t321 x5_1).f0.f0, (rd_T35 t321 x5_1).f0.f1⟩ : S33), (⟨(rd_T35 t321 x5_1).f1.f0, (rd_T35 t321 x5_1).f1.f1⟩ : S33)⟩ : S35), (⟨(⟨(rd_T35 t321 x6_2).f0.f0, (rd_T35 t321 x6_2).f0.f1⟩ : S33), (⟨(rd_T35 t321 x6_2).f1.f0, (rd_T35 t321 x6_2).f1.f1⟩ : S33)⟩ : S35)⟩ : S36) [.int .i64 ((rd_T35 t321 x5_1).f0.f0), .int .i64 ((rd_T35 t321 x5_1).f0.f1), .int .i64 ((rd_T35 t321 x5_1).f1.f0), .int .i64 ((rd_T35 t321 x5_1).f1.f1), .int .i64 ((rd_T35 t321 x6_2).f0.f0), .int .i64 ((rd_T35 t321 x6_2).f0.f1), .int .i64 ((rd_T35 t321 x6_2).f1.f0), .int .i64 ((rd_T35 t321 x6_2).f1.f1)] (fun _ => True) (fun _ => False) rfl rfl ?aP (fun _ hk => hk.elim) ?aF ?aO ?aB ?aS ?aL ?_
            (case aP => exact k36_mkM _ _ _ (⟨(⟨(⟨(rd_T35 t321 x5_1).f0.f0, (rd_T35 t321 x5_1).f0.f1⟩ : S33), (⟨(rd_T35 t321 x5_1).f1.f0, (rd_T35 t321 x5_1).f1.f1⟩ : S33)⟩ : S35), (⟨(⟨(rd_T35 t321 x6_2).f0.f0, (rd_T35 t321 x6_2).f0.f1⟩ : S33), (⟨(rd_T35 t321 x6_2).f1.f0, (rd_T35 t321 x6_2).f1.f1⟩ : S33)⟩ : S35)⟩ : S36))
            (case aB => exact (bl))
            (case aF => exact (fun _ _ => trivial))
            (case aO => exact (rl HO_4))
            (case aS => exact (below_size (bl)))
            (case aL => have := LMc12.out; omega)
            intro v330 w16 ho hb hg hat
            rw [← Ny329.out] at ho
            have n0_ := aM (Kd.R_over' (rl HO_3) (Kd.R_typed (rl HO_4)) (by decide) hg)
            have n1_ := aM (hb)
            have n2_ := aM (ho)
            clear HO_3 HB HO_4
            have HO_3 := n0_
            have HB := n1_
            have HO331 := n2_
            clear n0_ n1_ n2_ ho hb hg hat
            refine hK.out _ _ ?_
            clear hK K
            refine norm_ (a' := ?_) ?_ ?_
            rotate_left
            ·show Act.put _ (some 44) _ = _
             simp only [Act.put, sA, sB, sC, i64_w, i32_w]
             rfl
            refine pure_ (i := 12) (N := some 4) (v := ?_) (a' := ?_) (ba 13 8191) rfl rfl (any_of HT_.out (by kernel_rfl)) (fun _ _ _ h => h) (Or.inl ⟨by rfl, ?_⟩) ?_ ?_
            rotate_left
            ·intro w'
             go_simp
             with_reducible rfl
            rotate_left
            ·simp only [Act.put, sA, sB, sC, i64_w, i32_w]
             rfl
            refine done_ (done_of HT_.out (by kernel_rfl)) ?_
            try go_wp2
            go_roundg k2
            case measure => have := HK1.out; have := HK2.out; omega
            case rel => exact ⟨(y329), (wrap64 (x6_2 + 1)), (by first | rfl | (simp; done) | (simp [*]; done)), H', ⟨by have := HK1.out; have := HK2.out; omega⟩, ⟨by (with_reducible repeat (first | apply rA | apply rN | apply rD)); exact HO_3.out⟩, ⟨by (with_reducible repeat (first | apply rA | apply rN | apply rD)); exact HO331.out⟩, ⟨bl⟩⟩
           ·rw [if_neg c12] at H
            exact absurd H (by simp)
          ·rw [if_neg c11] at H
           have c11b0 : decide (2 ≤ t326) = false := decide_eq_false c11
           clear c11
           have H' := aM H
           clear H
           try go_wp2
           replace HO_3 := aM (rD HO_3.out)
           replace HO_4 := aM (rD HO_4.out)
           replace HB := aM (bD HB.out)
           have p324 : 0 ≤ (x5_1 : Int) := of_decide_eq_true (by first | (with_reducible assumption) | assumption)
           have q324 : x5_1 < (t321.length : Int) := of_decide_eq_true (by first | (with_reducible assumption) | assumption)
           obtain ⟨ad324, e324, hx324_0, hx324_1, hx324_2, hx324_3⟩ := at_T35 (rR HO_3.out).2.2 x5_1 p324 q324
           cases e324
           replace p324 := eq_true p324
           replace q324 := eq_true q324
           have p325 : 0 ≤ (x6_2 : Int) := of_decide_eq_true (by first | (with_reducible assumption) | assumption)
           have q325 : x6_2 < (t321.length : Int) := of_decide_eq_true (by first | (with_reducible assumption) | assumption)
           obtain ⟨ad325, e325, hx325_0, hx325_1, hx325_2, hx325_3⟩ := at_T35 (rR HO_3.out).2.2 x6_2 p325 q325
           obtain rfl : ad324 = ad325 := (by injection e325)
           replace p325 := eq_true p325
           replace q325 := eq_true q325
           refine start_ (n := 10) (S := fun w' => w'.cell? (ad324.add ((x5_1).toNat * 4)) = some (.int .i64 ((rd_T35 t321 x5_1).f0.f0)) ∧ w'.cell? ⟨(ad324.add ((x5_1).toNat * 4)).block, (ad324.add ((x5_1).toNat * 4)).off + 1, none⟩ = some (.int .i64 ((rd_T35 t321 x5_1).f0.f1)) ∧ w'.cell? ⟨(ad324.add ((x5_1).toNat * 4)).block, (ad324.add ((x5_1).toNat * 4)).off + 2, none⟩ = some (.int .i64 ((rd_T35 t321 x5_1).f1.f0)) ∧ w'.cell? ⟨(ad324.add ((x5_1).toNat * 4)).block, (ad324.add ((x5_1).toNat * 4)).off + 3, none⟩ = some (.int .i64 ((rd_T35 t321 x5_1).f1.f1)) ∧ w'.cell? (ad324.add ((x6_2).toNat * 4)) = some (.int .i64 ((rd_T35 t321 x6_2).f0.f0)) ∧ w'.cell? ⟨(ad324.add ((x6_2).toNat * 4)).block, (ad324.add ((x6_2).toNat * 4)).off + 1, none⟩ = some (.int .i64 ((rd_T35 t321 x6_2).f0.f1)) ∧ w'.cell? ⟨(ad324.add ((x6_2).toNat * 4)).block, (ad324.add ((x6_2).toNat * 4)).off + 2, none⟩ = some (.int .i64 ((rd_T35 t321 x6_2).f1.f0)) ∧ w'.cell? ⟨(ad324.add ((x6_2).toNat * 4)).block, (ad324.add ((x6_2).toNat * 4)).off + 3, none⟩ = some (.int .i64 ((rd_T35 t321 x6_2).f1.f1))) (ds := []) #[false, false, false, false, false, false, false, false, false, false] (by kernel_rfl) rfl rfl ⟨hx324_0, hx324_1, hx324_2, hx324_3, hx325_0, hx325_1, hx325_2, hx325_3⟩ (fun hHeld => ?_); refine with_tabW mapmakerref20_Crossings.tab9 mapmakerref20_Crossings.bits9 (fun HT_ HW_ => ?_)
           generalize wr.drew = w17 at HO_3 HO_4 HB hx324_0 hx324_1 hx324_2 hx324_3 hx325_0 hx325_1 hx325_2 hx325_3 hHeld ⊢
           refine pure_ (i := 0) (N := some 23) (v := ?_) (a' := ?_) (ba 10 1) rfl rfl (any_of HT_.out (by kernel_rfl)) (fun _ _ _ h => h) (Or.inl ⟨by rfl, ?_⟩) ?_ ?_
           rotate_left
           ·intro w'
            go_simp
            with_reducible rfl
           rotate_left
           ·simp only [Act.put, sA, sB, sC, i64_w, i32_w]
            rfl
           refine pure_ (i := 1) (N := some 24) (v := ?_) (a' := ?_) (ba 10 3) rfl rfl (any_of HT_.out (by kernel_rfl)) (fun _ _ _ h => h) (Or.inl ⟨by rfl, ?_⟩) ?_ ?_
           rotate_left
           ·intro w'
            go_simp
            with_reducible rfl
           rotate_left
           ·simp only [Act.put, sA, sB, sC, i64_w, i32_w]
            rfl
           refine pure_ (i := 2) (N := some 25) (v := ?_) (a' := ?_) (ba 10 7) rfl rfl (any_of HT_.out (by kernel_rfl)) (fun _ _ _ h => h) (Or.inl ⟨by rfl, ?_⟩) ?_ ?_
           rotate_left
           ·intro w'
            go_simp
            with_reducible rfl
           rotate_left
           ·simp only [Act.put, sA, sB, sC, i64_w, i32_w]
            rfl
           refine pure_ (i := 4) (N := some 27) (v := ?_) (a' := ?_) (ba 10 23) rfl rfl (any_of HT_.out (by kernel_rfl)) (fun _ _ _ h => h) (Or.inl ⟨by rfl, ?_⟩) ?_ ?_
           rotate_left
           ·intro w'
            go_simp
            with_reducible rfl
           rotate_left
           ·simp only [Act.put, sA, sB, sC, i64_w, i32_w]
            rfl
           refine pure_ (i := 5) (N := some 28) (v := ?_) (a' := ?_) (ba 10 55) rfl rfl (any_of HT_.out (by kernel_rfl)) (fun _ _ _ h => h) (Or.inl ⟨by rfl, ?_⟩) ?_ ?_
           rotate_left
           ·intro w'
            go_simp
            with_reducible rfl
           rotate_left
           ·simp only [Act.put, sA, sB, sC, i64_w, i32_w]
            rfl
           refine pure_ (i := 6) (N := some 29) (v := ?_) (a' := ?_) (ba 10 119) rfl rfl (any_of HT_.out (by kernel_rfl)) (fun _ _ _ h => h) (Or.inl ⟨by rfl, ?_⟩) ?_ ?_
           rotate_left
           ·intro w'
            go_simp
            with_reducible rfl
           rotate_left
           ·simp only [Act.put, sA, sB, sC, i64_w, i32_w]
            rfl
           refine take_ (i := 3) (N := some 26) (v := ?_) (a' := ?_) (ba 10 127) rfl rfl (take_ofW HT_.out HW_.out (by kernel_rfl)) (fun _ _ _ h => h) (Or.inl ⟨by rfl, ?_⟩) hHeld ?_ ?_
           rotate_left
           ·rintro w' ⟨s0, s1, s2, s3, s4, s5, s6, s7⟩
            go_simp
            with_reducible rfl
           rotate_left
           ·simp only [Act.put, sA, sB, sC, i64_w, i32_w]
            rfl
           refine take_ (i := 7) (N := some 30) (v := ?_) (a' := ?_) (ba 10 255) rfl rfl (take_ofW HT_.out HW_.out (by kernel_rfl)) (fun _ _ _ h => h) (Or.inl ⟨by rfl, ?_⟩) hHeld ?_ ?_
           rotate_left
           ·rintro w' ⟨s0, s1, s2, s3, s4, s5, s6, s7⟩
            go_simp
            with_reducible rfl
           rotate_left
           ·simp only [Act.put, sA, sB, sC, i64_w, i32_w]
            rfl
           refine one_ (i := 8) (N := some 31) (ba 10 511) rfl rfl (one_of HT_.out (by kernel_rfl)) (by decide) (fun K hK => ?_)
           refine goes_ Try.func27 (by kernel_rfl) rfl #[.agg #[.int .i64 ((rd_T35 t321 x5_1).f0.f0), .int .i64 ((rd_T35 t321 x5_1).f0.f1), .int .i64 ((rd_T35 t321 x5_1).f1.f0), .int .i64 ((rd_T35 t321 x5_1).f1.f1)], .agg #[.int .i64 ((rd_T35 t321 x6_2).f0.f0), .int .i64 ((rd_T35 t321 x6_2).f0.f1), .int .i64 ((rd_T35 t321 x6_2).f1.f0), .int .i64 ((rd_T35 t321 x6_2).f1.f1)]] (by rfl) rfl rfl (by (try simp only [List.map_toArray, List.map_cons, List.map_nil]); first | done | rfl | (simp only [List.length_drop, List.length_take]; rfl)) ?_
           with_reducible refine (mapmakerref09_Relate.calls k2 ((rd_T35 t321 x5_1).f0.f0) ((rd_T35 t321 x5_1).f0.f1) ((rd_T35 t321 x5_1).f1.f0) ((rd_T35 t321 x5_1).f1.f1) ((rd_T35 t321 x6_2).f0.f0) ((rd_T35 t321 x6_2).f0.f1) ((rd_T35 t321 x6_2).f1.f0) ((rd_T35 t321 x6_2).f1.f1) t326 _ A10.out).mono ?_
           rintro e w18 ⟨rfl, hb⟩
           obtain ⟨q0, q1, q2, q3, q4, q5, q6, q7⟩ := hHeld
           have HS_ := And.intro (hs hb q0) <| And.intro (hs hb q1) <| And.intro (hs hb q2) <| And.intro (hs hb q3) <| And.intro (hs hb q4) <| And.intro (hs hb q5) <| And.intro (hs hb q6) <| hs hb q7
           refine ⟨_, rfl, ?_⟩
           replace HO_3 := aM (rB (rl HO_3) hb)
           replace HO_4 := aM (rB (rl HO_4) hb)
           replace HB := aM (bS (bl) hb)
           (try clear hb)
           (try clear hb2)
           (try clear hk)
           (try clear hi)
           refine hK.out _ _ HS_ (fun hHeld => ?_)
           clear hK K
           refine norm_ (a' := ?_) ?_ ?_
           rotate_left
           ·show Act.put _ (some 31) _ = _
            simp only [Act.put, sA, sB, sC, i64_w, i32_w]
            rfl
           refine pure_ (i := 9) (N := some 32) (v := ?_) (a' := ?_) (ba 10 1023) rfl rfl (any_of HT_.out (by kernel_rfl)) (fun _ _ _ h => h) (Or.inl ⟨by rfl, ?_⟩) ?_ ?_
           rotate_left
           ·intro w'
            go_simp
            with_reducible rfl
           rotate_left
           ·simp only [Act.put, sA, sB, sC, i64_w, i32_w]
            rfl
           refine done_ (done_of HT_.out (by kernel_rfl)) ?_
           try go_wp2
           go_roundg k2
           case measure => have := HK1.out; have := HK2.out; omega
           case rel => exact ⟨(x4_2), (wrap64 (x6_2 + 1)), (by first | rfl | (simp; done) | (simp [*]; done)), H', ⟨by have := HK1.out; have := HK2.out; omega⟩, ⟨by (with_reducible repeat (first | apply rA | apply rN | apply rD)); exact HO_3.out⟩, ⟨by (with_reducible repeat (first | apply rA | apply rN | apply rD)); exact HO_4.out⟩, ⟨bl⟩⟩
         ·rw [if_neg c9] at H
          exact absurd H (by simp)
        ·rw [if_neg c8] at H
         exact absurd H (by simp)
       ·rw [if_neg c7] at H
        exact absurd H (by simp)
      ·rw [if_neg c6] at H
       have c6b0 : decide (x6_2 < (t321.length : Int)) = false := decide_eq_false c6
       clear c6
       have H' := aM H
       clear H
       go_wp2
       go_roundg k2
       case measure => have := HK1.out; have := HK2.out; omega
       case rel => exact ⟨(x4_2), (wrap64 (x5_1 + 1)), (by first | rfl | (simp; done) | (simp [*]; done)), H', ⟨by have := HK1.out; have := HK2.out; omega⟩, ⟨by (with_reducible repeat (first | apply rA | apply rN | apply rD)); exact HO_3.out⟩, ⟨by (with_reducible repeat (first | apply rA | apply rN | apply rD)); exact HO_4.out⟩, ⟨bl⟩⟩
   ·rw [if_neg c4] at H
    have c4b0 : decide (x5_1 < (t321.length : Int)) = false := decide_eq_false c4
    clear c4
    obtain rfl := Option.some.inj H
    obtain ⟨Ao19, co19, eo19⟩ := Kd.R_slice HO_3.out
    subst eo19
    go_wp2
    go_ret
    exact ⟨_, by first | rfl | (simp [errW_none, errW_some] <;> rfl) | (simp [*, errW_none, errW_some] <;> rfl), by (with_reducible repeat (first | apply rA | apply rN | apply rD)); exact HO_4.out, bl⟩
def mapmakerref20_Clean.f (k : Nat) (l0 : List (S35)) : Option (Bool) := (mapmakerref20_Split.f k l0).bind fun t332 => ((mapmakerref20_Sort.f k l0).bind fun t335 => ((mapmakerref20_Same.f k t332 t335).bind fun t338 => (if t338 = true then ((mapmakerref20_Crossings.f k l0).bind fun t339 => (some ((t339.length : Int) == 0))) else (some false))))
theorem mapmakerref20_Clean.mono : ∀ a0 k, LeO (mapmakerref20_Clean.f k a0) (mapmakerref20_Clean.f (k + 1) a0) := by
 intro a0 k
 unfold mapmakerref20_Clean.f
 repeat' first
   | (with_reducible exact mapmakerref20_Crossings.mono _ _)
   | (with_reducible exact mapmakerref20_Same.mono _ _ _)
   | (with_reducible exact mapmakerref20_Sort.mono _ _)
   | (with_reducible exact mapmakerref20_Split.mono _ _)
   | (with_reducible exact LeO.refl _)
   | (with_reducible exact LeO.none _)
   | (with_reducible refine LeO.ite ?_ ?_)
   | (with_reducible refine LeO.bind ?_ (fun _ => ?_))
   | exact mapmakerref20_Crossings.mono _ _
   | exact mapmakerref20_Same.mono _ _ _
   | exact mapmakerref20_Sort.mono _ _
   | exact mapmakerref20_Split.mono _ _
   | exact LeO.none _
   | refine LeO.ite ?_ ?_
   | refine LeO.bind ?_ (fun _ => ?_)
set_option maxHeartbeats 8000000 in
set_option maxRecDepth 100000 in
theorem mapmakerref20_Clean.calls (k : Nat) (A0 : Option Addr) (c0 : Nat) (l0 : List (S35)) (r : Bool) (w : World) (hr0 : Kd.C k35 w A0 l0.length l0) (hc0 : l0.length ≤ c0) (h : mapmakerref20_Clean.f k l0 = some r) :
  Calls Try.prog 22 #[.slice A0 l0.length c0] w fun e w' => e = .returned (.bool r) ∧ Below w.heap.size w w' := by
 have HR0 := aM hr0
 have HC0 := aM hc0
 clear hr0 hc0
 have HB := aM (Below.refl w.heap.size w)
 have H : ((mapmakerref20_Split.f k l0).bind fun t332 => ((mapmakerref20_Sort.f k l0).bind fun t335 => ((mapmakerref20_Same.f k t332 t335).bind fun t338 => (if t338 = true then ((mapmakerref20_Crossings.f k l0).bind fun t339 => (some ((t339.length : Int) == 0))) else (some false))))) = some r := h
 clear h
 replace H := Option.bind_eq_some_iff.mp H
 obtain ⟨t332, A20, H⟩ := H
 try dsimp only at H
 have A2 := aM A20
 clear A20
 replace H := Option.bind_eq_some_iff.mp H
 obtain ⟨t335, A30, H⟩ := H
 try dsimp only at H
 have A3 := aM A30
 clear A30
 replace H := Option.bind_eq_some_iff.mp H
 obtain ⟨t338, A40, H⟩ := H
 try dsimp only at H
 have A4 := aM A40
 clear A40
 by_cases c5 : t338 = true
 ·subst c5
  have H1 : ((mapmakerref20_Crossings.f k l0).bind fun t339 => (some ((t339.length : Int) == 0))) = some r := by rw [if_pos rfl] at H; exact H
  clear H
  have H := H1
  clear H1
  replace H := Option.bind_eq_some_iff.mp H
  obtain ⟨t339, A60, H⟩ := H
  try dsimp only at H
  have A6 := aM A60
  clear A60
  obtain rfl := Option.some.inj H
  go_enter Try.func22, Try.ntmps22
  go_wp2_with (first | ((with_reducible refine gate_callee (f := 20) rfl ?_); refine goesL_ (some 4) rfl rfl Try.func20 (by kernel_rfl) rfl #[.slice A0 l0.length c0] rfl (by (try simp only [List.map_toArray, List.map_cons, List.map_nil]); first | done | rfl | (simp only [List.length_drop, List.length_take]; rfl)) ?_; (with_reducible refine (mapmakerref20_Split.calls k _ _ l0 t332 _ ?side1 ?side2 A2.out).mono ?_); (case side1 => repeat (first | exact HR0.out | (with_reducible refine cA ?_ _) | (with_reducible refine cN ?_ _) | (with_reducible refine cD ?_))); (case side2 => exact HC0.out); rintro e w7 ⟨v333, rfl, ho0, hb⟩; refine ⟨_, rfl, ?_⟩; have HO334 := aM (Kd.R_lower ho0 (below_size (bl))); replace HB := aM (bS (bl) hb); (try clear hb); (try clear hb2); (try clear hk); (try clear hi); (try clear ho0)) | ((with_reducible refine gate_callee (f := 14) rfl ?_); refine goesL_ (some 6) rfl rfl Try.func14 (by kernel_rfl) rfl #[.slice A0 l0.length c0] rfl (by (try simp only [List.map_toArray, List.map_cons, List.map_nil]); first | done | rfl | (simp only [List.length_drop, List.length_take]; rfl)) ?_; (with_reducible refine (mapmakerref20_Sort.calls k _ _ l0 t335 _ ?side1 ?side2 A3.out).mono ?_); (case side1 => repeat (first | exact (Kd.C_below HR0.out HB.out) | (with_reducible refine cA ?_ _) | (with_reducible refine cN ?_ _) | (with_reducible refine cD ?_))); (case side2 => exact HC0.out); rintro e w8 ⟨v336, rfl, ho0, hb⟩; refine ⟨_, rfl, ?_⟩; have HO337 := aM (Kd.R_lower (Kd.R_new' ho0 (Kd.R_lt (rl HO334))) (below_size (bl))); replace HO334 := aM (rE (rl HO334) (Kd.R_base ho0) hb); replace HB := aM (bS (bl) hb); (try clear hb); (try clear hb2); (try clear hk); (try clear hi); (try clear ho0); obtain ⟨Ao9, co9, eo9⟩ := Kd.R_slice HO334.out; subst eo9; obtain ⟨Ao10, co10, eo10⟩ := Kd.R_slice HO337.out; subst eo10) | ((with_reducible refine gate_callee (f := 10) rfl ?_); refine goesL_ (some 7) rfl rfl Try.func10 (by kernel_rfl) rfl #[.slice Ao9 t332.length co9, .slice Ao10 t335.length co10] rfl (by (try simp only [List.map_toArray, List.map_cons, List.map_nil]); first | done | rfl | (simp only [List.length_drop, List.length_take]; rfl)) ?_; (with_reducible refine (mapmakerref20_Same.calls k _ _ t332 _ _ t335 true _ ?side1 ?side2 ?side3 ?side4 A4.out).mono ?_); (case side1 => repeat (first | exact (rR HO334.out).2.2 | (with_reducible refine cA ?_ _) | (with_reducible refine cN ?_ _) | (with_reducible refine cD ?_))); (case side2 => exact (rR HO334.out).2.1); (case side3 => repeat (first | exact (rR HO337.out).2.2 | (with_reducible refine cA ?_ _) | (with_reducible refine cN ?_ _) | (with_reducible refine cD ?_))); (case side4 => exact (rR HO337.out).2.1); rintro e w' ⟨rfl, ⟨nd, rfl⟩⟩; refine ⟨_, rfl, ?_⟩) | (go_at_call 24; (with_reducible refine (mapmakerref20_Crossings.calls k _ _ l0 t339 _ ?side1 ?side2 A6.out).mono ?_); (case side1 => repeat (first | exact (Kd.C_below HR0.out (bl)) | (with_reducible refine cA ?_ _) | (with_reducible refine cN ?_ _) | (with_reducible refine cD ?_))); (case side2 => exact HC0.out); rintro e w11 ⟨v340, rfl, ho0, hb⟩; replace HO334 := aM (rB (rl HO334) hb); replace HO337 := aM (rB (rl HO337) hb); have HO341 := aM (Kd.R_lower ho0 (below_size (bl))); replace HB := aM (bS (bl) hb); (try clear hb); (try clear hb2); (try clear hk); (try clear hi); (try clear ho0); obtain ⟨Ao12, co12, eo12⟩ := Kd.R_slice HO341.out; subst eo12))
  go_ret
  exact ⟨by first | rfl | (simp [errW_none, errW_some] <;> rfl) | (simp [*, errW_none, errW_some] <;> rfl), bl⟩
 ·replace c5 := Bool.eq_false_iff.mpr c5
  subst c5
  have H1 : (some false) = some r := by rw [if_neg (show ¬ (false = true) by decide)] at H; exact H
  clear H
  have H := H1
  clear H1
  obtain rfl := Option.some.inj H
  go_enter Try.func22, Try.ntmps22
  go_wp2_with (first | ((with_reducible refine gate_callee (f := 20) rfl ?_); refine goesL_ (some 4) rfl rfl Try.func20 (by kernel_rfl) rfl #[.slice A0 l0.length c0] rfl (by (try simp only [List.map_toArray, List.map_cons, List.map_nil]); first | done | rfl | (simp only [List.length_drop, List.length_take]; rfl)) ?_; (with_reducible refine (mapmakerref20_Split.calls k _ _ l0 t332 _ ?side1 ?side2 A2.out).mono ?_); (case side1 => repeat (first | exact HR0.out | (with_reducible refine cA ?_ _) | (with_reducible refine cN ?_ _) | (with_reducible refine cD ?_))); (case side2 => exact HC0.out); rintro e w13 ⟨v333, rfl, ho0, hb⟩; refine ⟨_, rfl, ?_⟩; have HO334 := aM (Kd.R_lower ho0 (below_size (bl))); replace HB := aM (bS (bl) hb); (try clear hb); (try clear hb2); (try clear hk); (try clear hi); (try clear ho0)) | ((with_reducible refine gate_callee (f := 14) rfl ?_); refine goesL_ (some 6) rfl rfl Try.func14 (by kernel_rfl) rfl #[.slice A0 l0.length c0] rfl (by (try simp only [List.map_toArray, List.map_cons, List.map_nil]); first | done | rfl | (simp only [List.length_drop, List.length_take]; rfl)) ?_; (with_reducible refine (mapmakerref20_Sort.calls k _ _ l0 t335 _ ?side1 ?side2 A3.out).mono ?_); (case side1 => repeat (first | exact (Kd.C_below HR0.out HB.out) | (with_reducible refine cA ?_ _) | (with_reducible refine cN ?_ _) | (with_reducible refine cD ?_))); (case side2 => exact HC0.out); rintro e w14 ⟨v336, rfl, ho0, hb⟩; refine ⟨_, rfl, ?_⟩; have HO337 := aM (Kd.R_lower (Kd.R_new' ho0 (Kd.R_lt (rl HO334))) (below_size (bl))); replace HO334 := aM (rE (rl HO334) (Kd.R_base ho0) hb); replace HB := aM (bS (bl) hb); (try clear hb); (try clear hb2); (try clear hk); (try clear hi); (try clear ho0); obtain ⟨Ao15, co15, eo15⟩ := Kd.R_slice HO334.out; subst eo15; obtain ⟨Ao16, co16, eo16⟩ := Kd.R_slice HO337.out; subst eo16) | ((with_reducible refine gate_callee (f := 10) rfl ?_); refine goesL_ (some 7) rfl rfl Try.func10 (by kernel_rfl) rfl #[.slice Ao15 t332.length co15, .slice Ao16 t335.length co16] rfl (by (try simp only [List.map_toArray, List.map_cons, List.map_nil]); first | done | rfl | (simp only [List.length_drop, List.length_take]; rfl)) ?_; (with_reducible refine (mapmakerref20_Same.calls k _ _ t332 _ _ t335 false _ ?side1 ?side2 ?side3 ?side4 A4.out).mono ?_); (case side1 => repeat (first | exact (rR HO334.out).2.2 | (with_reducible refine cA ?_ _) | (with_reducible refine cN ?_ _) | (with_reducible refine cD ?_))); (case side2 => exact (rR HO334.out).2.1); (case side3 => repeat (first | exact (rR HO337.out).2.2 | (with_reducible refine cA ?_ _) | (with_reducible refine cN ?_ _) | (with_reducible refine cD ?_))); (case side4 => exact (rR HO337.out).2.1); rintro e w' ⟨rfl, ⟨nd, rfl⟩⟩; refine ⟨_, rfl, ?_⟩))
  go_ret
  exact ⟨by first | rfl | (simp [errW_none, errW_some] <;> rfl) | (simp [*, errW_none, errW_some] <;> rfl), bl⟩
def mapmakerlaw20_NodingSplits.f (k : Nat) (l0 : List (S35)) : Option (Bool) := (mapmakerlaw20_few.f l0).bind fun t342 => (if t342 = true then ((noding_Split.f k l0).bind fun t344 => ((mapmakerref20_Split.f k l0).bind fun t347 => ((mapmakerref20_Same.f k t344 t347).bind fun t350 => (if t350 = true then ((noding_Clean.f k l0).bind fun t351 => ((mapmakerref20_Clean.f k l0).bind fun t352 => (if (t351 == t352) = true then ((mapmakerlaw20_lives.f k).bind fun t353 => (some t353)) else (some false)))) else (some false))))) else ((mapmakerlaw20_lives.f k).bind fun t343 => (some t343)))
theorem mapmakerlaw20_NodingSplits.mono : ∀ a0 k, LeO (mapmakerlaw20_NodingSplits.f k a0) (mapmakerlaw20_NodingSplits.f (k + 1) a0) := by
 intro a0 k
 unfold mapmakerlaw20_NodingSplits.f
 repeat' first
   | (with_reducible exact mapmakerlaw20_lives.mono _)
   | (with_reducible exact mapmakerref20_Clean.mono _ _)
   | (with_reducible exact mapmakerref20_Same.mono _ _ _)
   | (with_reducible exact mapmakerref20_Split.mono _ _)
   | (with_reducible exact noding_Clean.mono _ _)
   | (with_reducible exact noding_Split.mono _ _)
   | (with_reducible exact LeO.refl _)
   | (with_reducible exact LeO.none _)
   | (with_reducible refine LeO.ite ?_ ?_)
   | (with_reducible refine LeO.bind ?_ (fun _ => ?_))
   | exact mapmakerlaw20_lives.mono _
   | exact mapmakerref20_Clean.mono _ _
   | exact mapmakerref20_Same.mono _ _ _
   | exact mapmakerref20_Split.mono _ _
   | exact noding_Clean.mono _ _
   | exact noding_Split.mono _ _
   | exact LeO.none _
   | refine LeO.ite ?_ ?_
   | refine LeO.bind ?_ (fun _ => ?_)
set_option maxHeartbeats 8000000 in
set_option maxRecDepth 100000 in
theorem mapmakerlaw20_NodingSplits.calls (k : Nat) (A0 : Option Addr) (c0 : Nat) (l0 : List (S35)) (r : Bool) (w : World) (hr0 : Kd.C k35 w A0 l0.length l0) (hc0 : l0.length ≤ c0) (h : mapmakerlaw20_NodingSplits.f k l0 = some r) :
  Calls Try.prog 4 #[.slice A0 l0.length c0] w fun e w' => e = .returned (.bool r) ∧ Below w.heap.size w w' := by
 have HR0 := aM hr0
 have HC0 := aM hc0
 clear hr0 hc0
 have HB := aM (Below.refl w.heap.size w)
 have H : ((mapmakerlaw20_few.f l0).bind fun t342 => (if t342 = true then ((noding_Split.f k l0).bind fun t344 => ((mapmakerref20_Split.f k l0).bind fun t347 => ((mapmakerref20_Same.f k t344 t347).bind fun t350 => (if t350 = true then ((noding_Clean.f k l0).bind fun t351 => ((mapmakerref20_Clean.f k l0).bind fun t352 => (if (t351 == t352) = true then ((mapmakerlaw20_lives.f k).bind fun t353 => (some t353)) else (some false)))) else (some false))))) else ((mapmakerlaw20_lives.f k).bind fun t343 => (some t343)))) = some r := h
 clear h
 replace H := Option.bind_eq_some_iff.mp H
 obtain ⟨t342, A20, H⟩ := H
 try dsimp only at H
 have A2 := aM A20
 clear A20
 by_cases c3 : t342 = true
 ·subst c3
  have H1 : ((noding_Split.f k l0).bind fun t344 => ((mapmakerref20_Split.f k l0).bind fun t347 => ((mapmakerref20_Same.f k t344 t347).bind fun t350 => (if t350 = true then ((noding_Clean.f k l0).bind fun t351 => ((mapmakerref20_Clean.f k l0).bind fun t352 => (if (t351 == t352) = true then ((mapmakerlaw20_lives.f k).bind fun t353 => (some t353)) else (some false)))) else (some false))))) = some r := by rw [if_pos rfl] at H; exact H
  clear H
  have H := H1
  clear H1
  replace H := Option.bind_eq_some_iff.mp H
  obtain ⟨t344, A40, H⟩ := H
  try dsimp only at H
  have A4 := aM A40
  clear A40
  replace H := Option.bind_eq_some_iff.mp H
  obtain ⟨t347, A50, H⟩ := H
  try dsimp only at H
  have A5 := aM A50
  clear A50
  replace H := Option.bind_eq_some_iff.mp H
  obtain ⟨t350, A60, H⟩ := H
  try dsimp only at H
  have A6 := aM A60
  clear A60
  by_cases c7 : t350 = true
  ·subst c7
   have H1 : ((noding_Clean.f k l0).bind fun t351 => ((mapmakerref20_Clean.f k l0).bind fun t352 => (if (t351 == t352) = true then ((mapmakerlaw20_lives.f k).bind fun t353 => (some t353)) else (some false)))) = some r := by rw [if_pos rfl] at H; exact H
   clear H
   have H := H1
   clear H1
   replace H := Option.bind_eq_some_iff.mp H
   obtain ⟨t351, A80, H⟩ := H
   try dsimp only at H
   have A8 := aM A80
   clear A80
   replace H := Option.bind_eq_some_iff.mp H
   obtain ⟨t352, A90, H⟩ := H
   try dsimp only at H
   have A9 := aM A90
   clear A90
   by_cases c10 : (t351 == t352) = true
   ·rw [if_pos c10] at H
    have c10b0 : (t351 == t352) = true := c10
    (try (have c10b1 : decide (t351 = t352) = true := by simpa using c10))
    (try (have c10b2 : (t351 == t352) = true := by simpa using c10))
    clear c10
    replace H := Option.bind_eq_some_iff.mp H
    obtain ⟨t353, A110, H⟩ := H
    try dsimp only at H
    have A11 := aM A110
    clear A110
    obtain rfl := Option.some.inj H
    go_enter Try.func4, Try.ntmps4
    go_wp2_with (first | ((with_reducible refine gate_callee (f := 8) rfl ?_); refine goesL_ (some 4) rfl rfl Try.func8 (by kernel_rfl) rfl #[.slice A0 l0.length c0] rfl (by (try simp only [List.map_toArray, List.map_cons, List.map_nil]); first | done | rfl | (simp only [List.length_drop, List.length_take]; rfl)) ?_; (with_reducible refine (mapmakerlaw20_few.calls _ _ l0 true _ ?side1 ?side2 A2.out).mono ?_); (case side1 => repeat (first | exact HR0.out | (with_reducible refine cA ?_ _) | (with_reducible refine cN ?_ _) | (with_reducible refine cD ?_))); (case side2 => exact HC0.out); rintro e w' ⟨rfl, ⟨nd, rfl⟩⟩; refine ⟨_, rfl, ?_⟩) | ((with_reducible refine gate_callee (f := 19) rfl ?_); refine goesL_ (some 8) rfl rfl Try.func19 (by kernel_rfl) rfl #[.slice A0 l0.length c0] rfl (by (try simp only [List.map_toArray, List.map_cons, List.map_nil]); first | done | rfl | (simp only [List.length_drop, List.length_take]; rfl)) ?_; (with_reducible refine (noding_Split.calls k _ _ l0 t344 _ ?side1 ?side2 A4.out).mono ?_); (case side1 => repeat (first | exact HR0.out | (with_reducible refine cA ?_ _) | (with_reducible refine cN ?_ _) | (with_reducible refine cD ?_))); (case side2 => exact HC0.out); rintro e w12 ⟨v345, rfl, ho0, hb⟩; refine ⟨_, rfl, ?_⟩; have HO346 := aM (Kd.R_lower ho0 (below_size (bl))); replace HB := aM (bS (bl) hb); (try clear hb); (try clear hb2); (try clear hk); (try clear hi); (try clear ho0)) | ((with_reducible refine gate_callee (f := 20) rfl ?_); refine goesL_ (some 10) rfl rfl Try.func20 (by kernel_rfl) rfl #[.slice A0 l0.length c0] rfl (by (try simp only [List.map_toArray, List.map_cons, List.map_nil]); first | done | rfl | (simp only [List.length_drop, List.length_take]; rfl)) ?_; (with_reducible refine (mapmakerref20_Split.calls k _ _ l0 t347 _ ?side1 ?side2 A5.out).mono ?_); (case side1 => repeat (first | exact (Kd.C_below HR0.out HB.out) | (with_reducible refine cA ?_ _) | (with_reducible refine cN ?_ _) | (with_reducible refine cD ?_))); (case side2 => exact HC0.out); rintro e w13 ⟨v348, rfl, ho0, hb⟩; refine ⟨_, rfl, ?_⟩; have HO349 := aM (Kd.R_lower (Kd.R_new' ho0 (Kd.R_lt (rl HO346))) (below_size (bl))); replace HO346 := aM (rE (rl HO346) (Kd.R_base ho0) hb); replace HB := aM (bS (bl) hb); (try clear hb); (try clear hb2); (try clear hk); (try clear hi); (try clear ho0); obtain ⟨Ao14, co14, eo14⟩ := Kd.R_slice HO346.out; subst eo14; obtain ⟨Ao15, co15, eo15⟩ := Kd.R_slice HO349.out; subst eo15) | ((with_reducible refine gate_callee (f := 10) rfl ?_); refine goesL_ (some 11) rfl rfl Try.func10 (by kernel_rfl) rfl #[.slice Ao14 t344.length co14, .slice Ao15 t347.length co15] rfl (by (try simp only [List.map_toArray, List.map_cons, List.map_nil]); first | done | rfl | (simp only [List.length_drop, List.length_take]; rfl)) ?_; (with_reducible refine (mapmakerref20_Same.calls k _ _ t344 _ _ t347 true _ ?side1 ?side2 ?side3 ?side4 A6.out).mono ?_); (case side1 => repeat (first | exact (rR HO346.out).2.2 | (with_reducible refine cA ?_ _) | (with_reducible refine cN ?_ _) | (with_reducible refine cD ?_))); (case side2 => exact (rR HO346.out).2.1); (case side3 => repeat (first | exact (rR HO349.out).2.2 | (with_reducible refine cA ?_ _) | (with_reducible refine cN ?_ _) | (with_reducible refine cD ?_))); (case side4 => exact (rR HO349.out).2.1); rintro e w' ⟨rfl, ⟨nd, rfl⟩⟩; refine ⟨_, rfl, ?_⟩) | (go_at_call 21; (with_reducible refine (noding_Clean.calls k _ _ l0 t351 _ ?side1 ?side2 A8.out).mono ?_); (case side1 => repeat (first | exact (Kd.C_below HR0.out (bl)) | (with_reducible refine cA ?_ _) | (with_reducible refine cN ?_ _) | (with_reducible refine cD ?_))); (case side2 => exact HC0.out); rintro e w16 ⟨rfl, hb⟩; replace HO346 := aM (rB (rl HO346) hb); replace HO349 := aM (rB (rl HO349) hb); replace HB := aM (bS (bl) hb); (try clear hb); (try clear hb2); (try clear hk); (try clear hi)) | (go_at_call 22; (with_reducible refine (mapmakerref20_Clean.calls k _ _ l0 t352 _ ?side1 ?side2 A9.out).mono ?_); (case side1 => repeat (first | exact (Kd.C_below HR0.out HB.out) | (with_reducible refine cA ?_ _) | (with_reducible refine cN ?_ _) | (with_reducible refine cD ?_))); (case side2 => exact HC0.out); rintro e w17 ⟨rfl, hb⟩; replace HO346 := aM (rB (rl HO346) hb); replace HO349 := aM (rB (rl HO349) hb); replace HB := aM (bS (bl) hb); (try clear hb); (try clear hb2); (try clear hk); (try clear hi)) | (go_at_call 9; (with_reducible refine (mapmakerlaw20_lives.calls k  t353 _ A11.out).mono ?_); rintro e w18 ⟨rfl, hb⟩; replace HO346 := aM (rB (rl HO346) hb); replace HO349 := aM (rB (rl HO349) hb); replace HB := aM (bS (bl) hb); (try clear hb); (try clear hb2); (try clear hk); (try clear hi)))
    go_ret
    exact ⟨by first | rfl | (simp [errW_none, errW_some] <;> rfl) | (simp [*, errW_none, errW_some] <;> rfl), bl⟩
   ·rw [if_neg c10] at H
    have c10b0 : (t351 == t352) = false := by simpa using c10
    (try (have c10b1 : decide (t351 = t352) = false := by simpa using c10))
    (try (have c10b2 : (t351 == t352) = false := by simpa using c10))
    (try (have c10b3 : ¬ (t351 = t352) := by simpa using c10))
    clear c10
    obtain rfl := Option.some.inj H
    go_enter Try.func4, Try.ntmps4
    go_wp2_with (first | ((with_reducible refine gate_callee (f := 8) rfl ?_); refine goesL_ (some 4) rfl rfl Try.func8 (by kernel_rfl) rfl #[.slice A0 l0.length c0] rfl (by (try simp only [List.map_toArray, List.map_cons, List.map_nil]); first | done | rfl | (simp only [List.length_drop, List.length_take]; rfl)) ?_; (with_reducible refine (mapmakerlaw20_few.calls _ _ l0 true _ ?side1 ?side2 A2.out).mono ?_); (case side1 => repeat (first | exact HR0.out | (with_reducible refine cA ?_ _) | (with_reducible refine cN ?_ _) | (with_reducible refine cD ?_))); (case side2 => exact HC0.out); rintro e w' ⟨rfl, ⟨nd, rfl⟩⟩; refine ⟨_, rfl, ?_⟩) | ((with_reducible refine gate_callee (f := 19) rfl ?_); refine goesL_ (some 8) rfl rfl Try.func19 (by kernel_rfl) rfl #[.slice A0 l0.length c0] rfl (by (try simp only [List.map_toArray, List.map_cons, List.map_nil]); first | done | rfl | (simp only [List.length_drop, List.length_take]; rfl)) ?_; (with_reducible refine (noding_Split.calls k _ _ l0 t344 _ ?side1 ?side2 A4.out).mono ?_); (case side1 => repeat (first | exact HR0.out | (with_reducible refine cA ?_ _) | (with_reducible refine cN ?_ _) | (with_reducible refine cD ?_))); (case side2 => exact HC0.out); rintro e w19 ⟨v345, rfl, ho0, hb⟩; refine ⟨_, rfl, ?_⟩; have HO346 := aM (Kd.R_lower ho0 (below_size (bl))); replace HB := aM (bS (bl) hb); (try clear hb); (try clear hb2); (try clear hk); (try clear hi); (try clear ho0)) | ((with_reducible refine gate_callee (f := 20) rfl ?_); refine goesL_ (some 10) rfl rfl Try.func20 (by kernel_rfl) rfl #[.slice A0 l0.length c0] rfl (by (try simp only [List.map_toArray, List.map_cons, List.map_nil]); first | done | rfl | (simp only [List.length_drop, List.length_take]; rfl)) ?_; (with_reducible refine (mapmakerref20_Split.calls k _ _ l0 t347 _ ?side1 ?side2 A5.out).mono ?_); (case side1 => repeat (first | exact (Kd.C_below HR0.out HB.out) | (with_reducible refine cA ?_ _) | (with_reducible refine cN ?_ _) | (with_reducible refine cD ?_))); (case side2 => exact HC0.out); rintro e w20 ⟨v348, rfl, ho0, hb⟩; refine ⟨_, rfl, ?_⟩; have HO349 := aM (Kd.R_lower (Kd.R_new' ho0 (Kd.R_lt (rl HO346))) (below_size (bl))); replace HO346 := aM (rE (rl HO346) (Kd.R_base ho0) hb); replace HB := aM (bS (bl) hb); (try clear hb); (try clear hb2); (try clear hk); (try clear hi); (try clear ho0); obtain ⟨Ao21, co21, eo21⟩ := Kd.R_slice HO346.out; subst eo21; obtain ⟨Ao22, co22, eo22⟩ := Kd.R_slice HO349.out; subst eo22) | ((with_reducible refine gate_callee (f := 10) rfl ?_); refine goesL_ (some 11) rfl rfl Try.func10 (by kernel_rfl) rfl #[.slice Ao21 t344.length co21, .slice Ao22 t347.length co22] rfl (by (try simp only [List.map_toArray, List.map_cons, List.map_nil]); first | done | rfl | (simp only [List.length_drop, List.length_take]; rfl)) ?_; (with_reducible refine (mapmakerref20_Same.calls k _ _ t344 _ _ t347 true _ ?side1 ?side2 ?side3 ?side4 A6.out).mono ?_); (case side1 => repeat (first | exact (rR HO346.out).2.2 | (with_reducible refine cA ?_ _) | (with_reducible refine cN ?_ _) | (with_reducible refine cD ?_))); (case side2 => exact (rR HO346.out).2.1); (case side3 => repeat (first | exact (rR HO349.out).2.2 | (with_reducible refine cA ?_ _) | (with_reducible refine cN ?_ _) | (with_reducible refine cD ?_))); (case side4 => exact (rR HO349.out).2.1); rintro e w' ⟨rfl, ⟨nd, rfl⟩⟩; refine ⟨_, rfl, ?_⟩) | (go_at_call 21; (with_reducible refine (noding_Clean.calls k _ _ l0 t351 _ ?side1 ?side2 A8.out).mono ?_); (case side1 => repeat (first | exact (Kd.C_below HR0.out (bl)) | (with_reducible refine cA ?_ _) | (with_reducible refine cN ?_ _) | (with_reducible refine cD ?_))); (case side2 => exact HC0.out); rintro e w23 ⟨rfl, hb⟩; replace HO346 := aM (rB (rl HO346) hb); replace HO349 := aM (rB (rl HO349) hb); replace HB := aM (bS (bl) hb); (try clear hb); (try clear hb2); (try clear hk); (try clear hi)) | (go_at_call 22; (with_reducible refine (mapmakerref20_Clean.calls k _ _ l0 t352 _ ?side1 ?side2 A9.out).mono ?_); (case side1 => repeat (first | exact (Kd.C_below HR0.out HB.out) | (with_reducible refine cA ?_ _) | (with_reducible refine cN ?_ _) | (with_reducible refine cD ?_))); (case side2 => exact HC0.out); rintro e w24 ⟨rfl, hb⟩; replace HO346 := aM (rB (rl HO346) hb); replace HO349 := aM (rB (rl HO349) hb); replace HB := aM (bS (bl) hb); (try clear hb); (try clear hb2); (try clear hk); (try clear hi)))
    go_ret
    exact ⟨by first | rfl | (simp [errW_none, errW_some] <;> rfl) | (simp [*, errW_none, errW_some] <;> rfl), bl⟩
  ·replace c7 := Bool.eq_false_iff.mpr c7
   subst c7
   have H1 : (some false) = some r := by rw [if_neg (show ¬ (false = true) by decide)] at H; exact H
   clear H
   have H := H1
   clear H1
   obtain rfl := Option.some.inj H
   go_enter Try.func4, Try.ntmps4
   go_wp2_with (first | ((with_reducible refine gate_callee (f := 8) rfl ?_); refine goesL_ (some 4) rfl rfl Try.func8 (by kernel_rfl) rfl #[.slice A0 l0.length c0] rfl (by (try simp only [List.map_toArray, List.map_cons, List.map_nil]); first | done | rfl | (simp only [List.length_drop, List.length_take]; rfl)) ?_; (with_reducible refine (mapmakerlaw20_few.calls _ _ l0 true _ ?side1 ?side2 A2.out).mono ?_); (case side1 => repeat (first | exact HR0.out | (with_reducible refine cA ?_ _) | (with_reducible refine cN ?_ _) | (with_reducible refine cD ?_))); (case side2 => exact HC0.out); rintro e w' ⟨rfl, ⟨nd, rfl⟩⟩; refine ⟨_, rfl, ?_⟩) | ((with_reducible refine gate_callee (f := 19) rfl ?_); refine goesL_ (some 8) rfl rfl Try.func19 (by kernel_rfl) rfl #[.slice A0 l0.length c0] rfl (by (try simp only [List.map_toArray, List.map_cons, List.map_nil]); first | done | rfl | (simp only [List.length_drop, List.length_take]; rfl)) ?_; (with_reducible refine (noding_Split.calls k _ _ l0 t344 _ ?side1 ?side2 A4.out).mono ?_); (case side1 => repeat (first | exact HR0.out | (with_reducible refine cA ?_ _) | (with_reducible refine cN ?_ _) | (with_reducible refine cD ?_))); (case side2 => exact HC0.out); rintro e w25 ⟨v345, rfl, ho0, hb⟩; refine ⟨_, rfl, ?_⟩; have HO346 := aM (Kd.R_lower ho0 (below_size (bl))); replace HB := aM (bS (bl) hb); (try clear hb); (try clear hb2); (try clear hk); (try clear hi); (try clear ho0)) | ((with_reducible refine gate_callee (f := 20) rfl ?_); refine goesL_ (some 10) rfl rfl Try.func20 (by kernel_rfl) rfl #[.slice A0 l0.length c0] rfl (by (try simp only [List.map_toArray, List.map_cons, List.map_nil]); first | done | rfl | (simp only [List.length_drop, List.length_take]; rfl)) ?_; (with_reducible refine (mapmakerref20_Split.calls k _ _ l0 t347 _ ?side1 ?side2 A5.out).mono ?_); (case side1 => repeat (first | exact (Kd.C_below HR0.out HB.out) | (with_reducible refine cA ?_ _) | (with_reducible refine cN ?_ _) | (with_reducible refine cD ?_))); (case side2 => exact HC0.out); rintro e w26 ⟨v348, rfl, ho0, hb⟩; refine ⟨_, rfl, ?_⟩; have HO349 := aM (Kd.R_lower (Kd.R_new' ho0 (Kd.R_lt (rl HO346))) (below_size (bl))); replace HO346 := aM (rE (rl HO346) (Kd.R_base ho0) hb); replace HB := aM (bS (bl) hb); (try clear hb); (try clear hb2); (try clear hk); (try clear hi); (try clear ho0); obtain ⟨Ao27, co27, eo27⟩ := Kd.R_slice HO346.out; subst eo27; obtain ⟨Ao28, co28, eo28⟩ := Kd.R_slice HO349.out; subst eo28) | ((with_reducible refine gate_callee (f := 10) rfl ?_); refine goesL_ (some 11) rfl rfl Try.func10 (by kernel_rfl) rfl #[.slice Ao27 t344.length co27, .slice Ao28 t347.length co28] rfl (by (try simp only [List.map_toArray, List.map_cons, List.map_nil]); first | done | rfl | (simp only [List.length_drop, List.length_take]; rfl)) ?_; (with_reducible refine (mapmakerref20_Same.calls k _ _ t344 _ _ t347 false _ ?side1 ?side2 ?side3 ?side4 A6.out).mono ?_); (case side1 => repeat (first | exact (rR HO346.out).2.2 | (with_reducible refine cA ?_ _) | (with_reducible refine cN ?_ _) | (with_reducible refine cD ?_))); (case side2 => exact (rR HO346.out).2.1); (case side3 => repeat (first | exact (rR HO349.out).2.2 | (with_reducible refine cA ?_ _) | (with_reducible refine cN ?_ _) | (with_reducible refine cD ?_))); (case side4 => exact (rR HO349.out).2.1); rintro e w' ⟨rfl, ⟨nd, rfl⟩⟩; refine ⟨_, rfl, ?_⟩))
   go_ret
   exact ⟨by first | rfl | (simp [errW_none, errW_some] <;> rfl) | (simp [*, errW_none, errW_some] <;> rfl), bl⟩
 ·replace c3 := Bool.eq_false_iff.mpr c3
  subst c3
  have H1 : ((mapmakerlaw20_lives.f k).bind fun t343 => (some t343)) = some r := by rw [if_neg (show ¬ (false = true) by decide)] at H; exact H
  clear H
  have H := H1
  clear H1
  replace H := Option.bind_eq_some_iff.mp H
  obtain ⟨t343, A290, H⟩ := H
  try dsimp only at H
  have A29 := aM A290
  clear A290
  obtain rfl := Option.some.inj H
  go_enter Try.func4, Try.ntmps4
  go_wp2_with (first | ((with_reducible refine gate_callee (f := 8) rfl ?_); refine goesL_ (some 4) rfl rfl Try.func8 (by kernel_rfl) rfl #[.slice A0 l0.length c0] rfl (by (try simp only [List.map_toArray, List.map_cons, List.map_nil]); first | done | rfl | (simp only [List.length_drop, List.length_take]; rfl)) ?_; (with_reducible refine (mapmakerlaw20_few.calls _ _ l0 false _ ?side1 ?side2 A2.out).mono ?_); (case side1 => repeat (first | exact HR0.out | (with_reducible refine cA ?_ _) | (with_reducible refine cN ?_ _) | (with_reducible refine cD ?_))); (case side2 => exact HC0.out); rintro e w' ⟨rfl, ⟨nd, rfl⟩⟩; refine ⟨_, rfl, ?_⟩) | ((with_reducible refine gate_callee (f := 9) rfl ?_); refine goesL_ (some 6) rfl rfl Try.func9 (by kernel_rfl) rfl #[] rfl (by (try simp only [List.map_toArray, List.map_cons, List.map_nil]); first | done | rfl | (simp only [List.length_drop, List.length_take]; rfl)) ?_; (with_reducible refine (mapmakerlaw20_lives.calls k  t343 _ A29.out).mono ?_); rintro e w30 ⟨rfl, hb⟩; refine ⟨_, rfl, ?_⟩; replace HB := aM (bS (bl) hb); (try clear hb); (try clear hb2); (try clear hk); (try clear hi)))
  go_ret
  exact ⟨by first | rfl | (simp [errW_none, errW_some] <;> rfl) | (simp [*, errW_none, errW_some] <;> rfl), bl⟩
def wf33 (x : S33) : Prop := (Lit.int .i64 x.f0).wf = true ∧ (Lit.int .i64 x.f1).wf = true
theorem opens33 : Opens Try.prog 33 k33 wf33 := by
 refine Opens.iso (d := (Kd.pair (Kd.int .i64) (Kd.int .i64))) (W := fun x => (Lit.int .i64 x.1).wf = true ∧ (Lit.int .i64 x.2).wf = true) (f := fun x : S33 => (x.f0, x.f1)) (g := fun x => (⟨x.1, x.2⟩ : S33)) ?_ (fun _ => rfl)
 refine Opens.struct Try.underlying33 (by kernel_rfl) ?_
 exact (OpensF.cons rfl (Opens.int Try.underlying3 (by kernel_rfl)) (OpensF.one rfl (Opens.int Try.underlying3 (by kernel_rfl))))
def wf35 (x : S35) : Prop := wf33 x.f0 ∧ wf33 x.f1
theorem opens35 : Opens Try.prog 35 k35 wf35 := by
 refine Opens.iso (d := (Kd.pair k33 k33)) (W := fun x => wf33 x.1 ∧ wf33 x.2) (f := fun x : S35 => (x.f0, x.f1)) (g := fun x => (⟨x.1, x.2⟩ : S35)) ?_ (fun _ => rfl)
 refine Opens.struct Try.underlying35 (by kernel_rfl) ?_
 exact (OpensF.cons rfl opens33 (OpensF.one rfl opens33))
theorem mapmakerlaw20_NodingSplits.opens_0 : Opens Try.prog 23 (Kd.slice 35 k35) (fun x => (x.length ≤ maxLen ∧ ∀ y ∈ x, wf35 y)) := (Opens.slice Try.underlying23 (by kernel_rfl) opens35)
def mapmakerlaw20_NodingSplits.Pure : Prop := ∀ (l0 : List (S35)), (l0.length ≤ maxLen ∧ ∀ y ∈ l0, wf35 y) → ∃ k, mapmakerlaw20_NodingSplits.f k l0 = some true
theorem mapmakerlaw20_NodingSplits.walk (P : mapmakerlaw20_NodingSplits.Pure) (w : World) (A0 : Option Addr) (c0 : Nat) (l0 : List (S35)) (hr0 : Kd.C k35 w A0 l0.length l0) (hc0 : l0.length ≤ c0) (w0 : (l0.length ≤ maxLen ∧ ∀ y ∈ l0, wf35 y)) :
  Calls Try.prog 4 #[.slice A0 l0.length c0] w fun e w' => e = .returned (.bool true) ∧ Below w.heap.size w w' := by
 obtain ⟨k, h⟩ := P l0 w0
 refine (mapmakerlaw20_NodingSplits.calls k A0 c0 l0 true w hr0 hc0 h).mono ?_
 rintro e w' ⟨rfl, hd⟩
 exact ⟨rfl, hd⟩
end Go.Proofs.Ytmejeiddlhjjmaa.PNodingSplits
