-- out of a driver of this session's prover over the kit's print: Lean checks it
import Derived.Test.YtgenbepicnbecaaPAllx0
namespace Go.Proofs.Ytgenbepicnbecaa.PAll
open Go.Proofs.YtgenbepicnbecaaG Go.Shelf Go.Lib
open Go.RowKit Go.Proofs.YtgenbepicnbecaaW.PrintWords Go.Proofs.YtgenbepicnbecaaW.PrintLast Go.Proofs.YtgenbepicnbecaaW.PrintMore
attribute [local go_sem] max2_int min2_int max_two min_two max_three min_three max_four min_four   -- for this text's walks alone
set_option linter.unusedVariables false
set_option linter.unusedSimpArgs false
mutual
def mapmakerlaw14_without.l0 : Nat → Int → List (S39) → List (S45) → List (S51) → Int → Int → List (S39) → Option ((List (S39)) × (List (S45)) × (List (S51)))
 | 0, _, _, _, _, _, _, _ => none
 | k + 1, x6, x525000, x525001, x525002, x526000, x526001, x528000 => if x6 < (x525000.length : Int) then (if x526000 = 1 then (if 0 ≤ x6 then (if ((rd_T39 x525000 x6).f0) = x526001 then (mapmakerlaw14_without.l0 k (wrap64 (x6 + 1)) x525000 x525001 x525002 x526000 x526001 x528000) else (if x528000.length < 2932031007402 then (mapmakerlaw14_without.l0 k (wrap64 (x6 + 1)) x525000 x525001 x525002 x526000 x526001 (x528000 ++ [(⟨(rd_T39 x525000 x6).f0, (⟨(rd_T39 x525000 x6).f1.f0, (rd_T39 x525000 x6).f1.f1⟩ : S36), (rd_T39 x525000 x6).f2⟩ : S39)])) else (none))) else (none)) else (if 0 ≤ x6 then (if x528000.length < 2932031007402 then (mapmakerlaw14_without.l0 k (wrap64 (x6 + 1)) x525000 x525001 x525002 x526000 x526001 (x528000 ++ [(⟨(rd_T39 x525000 x6).f0, (⟨(rd_T39 x525000 x6).f1.f0, (rd_T39 x525000 x6).f1.f1⟩ : S36), (rd_T39 x525000 x6).f2⟩ : S39)])) else (none)) else (none))) else (mapmakerlaw14_without.l1 k 0 x525000 x525001 x525002 x526000 x526001 x528000 ([] : List (S45)))
def mapmakerlaw14_without.l1 : Nat → Int → List (S39) → List (S45) → List (S51) → Int → Int → List (S39) → List (S45) → Option ((List (S39)) × (List (S45)) × (List (S51)))
 | 0, _, _, _, _, _, _, _, _ => none
 | k + 1, x7, x525000, x525001, x525002, x526000, x526001, x528000, x528001 => if x7 < (x525001.length : Int) then (if x526000 = 2 then (if 0 ≤ x7 then (if ((rd_T45 x525001 x7).f0) = x526001 then (mapmakerlaw14_without.l1 k (wrap64 (x7 + 1)) x525000 x525001 x525002 x526000 x526001 x528000 x528001) else (if x528001.length < 2513169434916 then (mapmakerlaw14_without.l1 k (wrap64 (x7 + 1)) x525000 x525001 x525002 x526000 x526001 x528000 (x528001 ++ [(⟨(rd_T45 x525001 x7).f0, (rd_T45 x525001 x7).f1, (rd_T45 x525001 x7).f2⟩ : S45)])) else (none))) else (none)) else (if 0 ≤ x7 then (if x528001.length < 2513169434916 then (mapmakerlaw14_without.l1 k (wrap64 (x7 + 1)) x525000 x525001 x525002 x526000 x526001 x528000 (x528001 ++ [(⟨(rd_T45 x525001 x7).f0, (rd_T45 x525001 x7).f1, (rd_T45 x525001 x7).f2⟩ : S45)])) else (none)) else (none))) else (mapmakerlaw14_without.l2 k 0 x525000 x525001 x525002 x526000 x526001 x528000 x528001 ([] : List (S51)))
def mapmakerlaw14_without.l2 : Nat → Int → List (S39) → List (S45) → List (S51) → Int → Int → List (S39) → List (S45) → List (S51) → Option ((List (S39)) × (List (S45)) × (List (S51)))
 | 0, _, _, _, _, _, _, _, _, _ => none
 | k + 1, x8, x525000, x525001, x525002, x526000, x526001, x528000, x528001, x528002 => if x8 < (x525002.length : Int) then (if x526000 = 3 then (if 0 ≤ x8 then (if ((rd_T51 x525002 x8).f0) = x526001 then (mapmakerlaw14_without.l2 k (wrap64 (x8 + 1)) x525000 x525001 x525002 x526000 x526001 x528000 x528001 x528002) else (if x528002.length < 2513169434916 then (mapmakerlaw14_without.l2 k (wrap64 (x8 + 1)) x525000 x525001 x525002 x526000 x526001 x528000 x528001 (x528002 ++ [(⟨(rd_T51 x525002 x8).f0, (rd_T51 x525002 x8).f1, (rd_T51 x525002 x8).f2⟩ : S51)])) else (none))) else (none)) else (if 0 ≤ x8 then (if x528002.length < 2513169434916 then (mapmakerlaw14_without.l2 k (wrap64 (x8 + 1)) x525000 x525001 x525002 x526000 x526001 x528000 x528001 (x528002 ++ [(⟨(rd_T51 x525002 x8).f0, (rd_T51 x525002 x8).f1, (rd_T51 x525002 x8).f2⟩ : S51)])) else (none)) else (none))) else (some (x528000, x528001, x528002))
end
def mapmakerlaw14_without.f (k : Nat) (l0_0 : List (S39)) (l0_1 : List (S45)) (l0_2 : List (S51)) (a1_0 : Int) (a1_1 : Int) : Option ((List (S39)) × (List (S45)) × (List (S51))) := mapmakerlaw14_without.l0 k 0 l0_0 l0_1 l0_2 a1_0 a1_1 ([] : List (S39))
theorem mapmakerlaw14_without.mono_l : ∀ k, (∀ y0 y1 y2 y3 y4 y5 y6, LeO (mapmakerlaw14_without.l0 k y0 y1 y2 y3 y4 y5 y6) (mapmakerlaw14_without.l0 (k + 1) y0 y1 y2 y3 y4 y5 y6)) ∧ (∀ y0 y1 y2 y3 y4 y5 y6 y7, LeO (mapmakerlaw14_without.l1 k y0 y1 y2 y3 y4 y5 y6 y7) (mapmakerlaw14_without.l1 (k + 1) y0 y1 y2 y3 y4 y5 y6 y7)) ∧ (∀ y0 y1 y2 y3 y4 y5 y6 y7 y8, LeO (mapmakerlaw14_without.l2 k y0 y1 y2 y3 y4 y5 y6 y7 y8) (mapmakerlaw14_without.l2 (k + 1) y0 y1 y2 y3 y4 y5 y6 y7 y8))
 | 0 => ⟨fun _ _ _ _ _ _ _ r h => by simp [mapmakerlaw14_without.l0] at h, fun _ _ _ _ _ _ _ _ r h => by simp [mapmakerlaw14_without.l1] at h, fun _ _ _ _ _ _ _ _ _ r h => by simp [mapmakerlaw14_without.l2] at h⟩
 | k + 1 => by
  obtain ⟨ih0, ih1, ih2⟩ := mapmakerlaw14_without.mono_l k
  refine ⟨?_, ?_, ?_⟩
  ·intro y0 y1 y2 y3 y4 y5 y6
   unfold mapmakerlaw14_without.l0
   repeat' first
   | (with_reducible exact ih0 _ _ _ _ _ _ _)
   | (with_reducible exact ih1 _ _ _ _ _ _ _ _)
   | (with_reducible exact ih2 _ _ _ _ _ _ _ _ _)
   | (with_reducible exact LeO.refl _)
   | (with_reducible exact LeO.none _)
   | (with_reducible refine LeO.ite ?_ ?_)
   | (with_reducible refine LeO.bind ?_ (fun _ => ?_))
   | exact ih0 _ _ _ _ _ _ _
   | exact ih1 _ _ _ _ _ _ _ _
   | exact ih2 _ _ _ _ _ _ _ _ _
   | exact LeO.none _
   | refine LeO.ite ?_ ?_
   | refine LeO.bind ?_ (fun _ => ?_)
  ·intro y0 y1 y2 y3 y4 y5 y6 y7
   unfold mapmakerlaw14_without.l1
   repeat' first
   | (with_reducible exact ih0 _ _ _ _ _ _ _)
   | (with_reducible exact ih1 _ _ _ _ _ _ _ _)
   | (with_reducible exact ih2 _ _ _ _ _ _ _ _ _)
   | (with_reducible exact LeO.refl _)
   | (with_reducible exact LeO.none _)
   | (with_reducible refine LeO.ite ?_ ?_)
   | (with_reducible refine LeO.bind ?_ (fun _ => ?_))
   | exact ih0 _ _ _ _ _ _ _
   | exact ih1 _ _ _ _ _ _ _ _
   | exact ih2 _ _ _ _ _ _ _ _ _
   | exact LeO.none _
   | refine LeO.ite ?_ ?_
   | refine LeO.bind ?_ (fun _ => ?_)
  ·intro y0 y1 y2 y3 y4 y5 y6 y7 y8
   unfold mapmakerlaw14_without.l2
   repeat' first
   | (with_reducible exact ih0 _ _ _ _ _ _ _)
   | (with_reducible exact ih1 _ _ _ _ _ _ _ _)
   | (with_reducible exact ih2 _ _ _ _ _ _ _ _ _)
   | (with_reducible exact LeO.refl _)
   | (with_reducible exact LeO.none _)
   | (with_reducible refine LeO.ite ?_ ?_)
   | (with_reducible refine LeO.bind ?_ (fun _ => ?_))
   | exact ih0 _ _ _ _ _ _ _
   | exact ih1 _ _ _ _ _ _ _ _
   | exact ih2 _ _ _ _ _ _ _ _ _
   | exact LeO.none _
   | refine LeO.ite ?_ ?_
   | refine LeO.bind ?_ (fun _ => ?_)
theorem mapmakerlaw14_without.mono : ∀ a0 a1 a2 a3 a4 k, LeO (mapmakerlaw14_without.f k a0 a1 a2 a3 a4) (mapmakerlaw14_without.f (k + 1) a0 a1 a2 a3 a4) := by
 intro a0 a1 a2 a3 a4 k
 obtain ⟨ih0, ih1, ih2⟩ := mapmakerlaw14_without.mono_l k
 unfold mapmakerlaw14_without.f
 repeat' first
   | (with_reducible exact ih0 _ _ _ _ _ _ _)
   | (with_reducible exact ih1 _ _ _ _ _ _ _ _)
   | (with_reducible exact ih2 _ _ _ _ _ _ _ _ _)
   | (with_reducible exact LeO.refl _)
   | (with_reducible exact LeO.none _)
   | (with_reducible refine LeO.ite ?_ ?_)
   | (with_reducible refine LeO.bind ?_ (fun _ => ?_))
   | exact ih0 _ _ _ _ _ _ _
   | exact ih1 _ _ _ _ _ _ _ _
   | exact ih2 _ _ _ _ _ _ _ _ _
   | exact LeO.none _
   | refine LeO.ite ?_ ?_
   | refine LeO.bind ?_ (fun _ => ?_)
def mapmakerlaw14_without.T5 : Bool × List (List Nat × List Nat) := (true, [([], []), ([0], [0]), ([1], [1]), ([2], [2]), ([3], [3]), ([4, 3], [3, 4]), ([3], [3]), ([5, 6, 3], [3, 5, 6]), ([7, 3], [3, 7]), ([8, 3], [3, 8]), ([3], [3]), ([10, 3], [3, 10]), ([9, 11, 3], [3, 9, 11]), ([3, 12], [3, 12])])
def mapmakerlaw14_without.B5 : List Nat := [0, 1, 3, 7, 15, 31, 15, 127, 255, 511, 15, 1039, 4095, 8191]
theorem mapmakerlaw14_without.tab5 : rtab .any (opsOf Try.f33 5) = mapmakerlaw14_without.T5 := by kernel_rfl
theorem mapmakerlaw14_without.bits5 : waitsOk mapmakerlaw14_without.T5.2 mapmakerlaw14_without.B5 = true := by kernel_rfl
def mapmakerlaw14_without.T6 : Bool × List (List Nat × List Nat) := (true, [([], []), ([0], [0]), ([], []), ([2], [2]), ([], []), ([3, 4], [3, 4]), ([5], [5]), ([6], [6]), ([1, 7], [1, 7]), ([0, 1, 2, 3, 4, 5, 6, 7, 8], []), ([9, 8, 8, 0, 1, 2, 3, 4, 5, 6, 7, 8], [8, 9])])
def mapmakerlaw14_without.B6 : List Nat := [0, 1, 0, 4, 0, 28, 60, 124, 255, 511, 1023]
theorem mapmakerlaw14_without.tab6 : rtab .any (opsOf Try.f33 6) = mapmakerlaw14_without.T6 := by kernel_rfl
theorem mapmakerlaw14_without.bits6 : waitsOk mapmakerlaw14_without.T6.2 mapmakerlaw14_without.B6 = true := by kernel_rfl
def mapmakerlaw14_without.T10 : Bool × List (List Nat × List Nat) := (true, [([], []), ([0], [0]), ([1], [1]), ([2], [2]), ([3], [3]), ([4, 3], [3, 4]), ([3], [3]), ([5, 6, 3], [3, 5, 6]), ([7, 3], [3, 7]), ([8, 3], [3, 8]), ([3], [3]), ([10, 3], [3, 10]), ([9, 11, 3], [3, 9, 11]), ([3, 12], [3, 12])])
def mapmakerlaw14_without.B10 : List Nat := [0, 1, 3, 7, 15, 31, 15, 127, 255, 511, 15, 1039, 4095, 8191]
theorem mapmakerlaw14_without.tab10 : rtab .any (opsOf Try.f33 10) = mapmakerlaw14_without.T10 := by kernel_rfl
theorem mapmakerlaw14_without.bits10 : waitsOk mapmakerlaw14_without.T10.2 mapmakerlaw14_without.B10 = true := by kernel_rfl
def mapmakerlaw14_without.T11 : Bool × List (List Nat × List Nat) := (true, [([], []), ([0], [0]), ([], []), ([2], [2]), ([], []), ([3, 4], [3, 4]), ([5], [5]), ([6], [6]), ([1, 7], [1, 7]), ([0, 1, 2, 3, 4, 5, 6, 7, 8], []), ([9, 8, 8, 0, 1, 2, 3, 4, 5, 6, 7, 8], [8, 9])])
def mapmakerlaw14_without.B11 : List Nat := [0, 1, 0, 4, 0, 28, 60, 124, 255, 511, 1023]
theorem mapmakerlaw14_without.tab11 : rtab .any (opsOf Try.f33 11) = mapmakerlaw14_without.T11 := by kernel_rfl
theorem mapmakerlaw14_without.bits11 : waitsOk mapmakerlaw14_without.T11.2 mapmakerlaw14_without.B11 = true := by kernel_rfl
def mapmakerlaw14_without.T15 : Bool × List (List Nat × List Nat) := (true, [([], []), ([0], [0]), ([1], [1]), ([2], [2]), ([3], [3]), ([4, 3], [3, 4]), ([3], [3]), ([5, 6, 3], [3, 5, 6]), ([7, 3], [3, 7]), ([8, 3], [3, 8]), ([3], [3]), ([10, 3], [3, 10]), ([9, 11, 3], [3, 9, 11]), ([3, 12], [3, 12])])
def mapmakerlaw14_without.B15 : List Nat := [0, 1, 3, 7, 15, 31, 15, 127, 255, 511, 15, 1039, 4095, 8191]
theorem mapmakerlaw14_without.tab15 : rtab .any (opsOf Try.f33 15) = mapmakerlaw14_without.T15 := by kernel_rfl
theorem mapmakerlaw14_without.bits15 : waitsOk mapmakerlaw14_without.T15.2 mapmakerlaw14_without.B15 = true := by kernel_rfl
def mapmakerlaw14_without.T16 : Bool × List (List Nat × List Nat) := (true, [([], []), ([0], [0]), ([], []), ([2], [2]), ([], []), ([3, 4], [3, 4]), ([5], [5]), ([6], [6]), ([1, 7], [1, 7]), ([0, 1, 2, 3, 4, 5, 6, 7, 8], []), ([9, 8, 8, 0, 1, 2, 3, 4, 5, 6, 7, 8], [8, 9])])
def mapmakerlaw14_without.B16 : List Nat := [0, 1, 0, 4, 0, 28, 60, 124, 255, 511, 1023]
theorem mapmakerlaw14_without.tab16 : rtab .any (opsOf Try.f33 16) = mapmakerlaw14_without.T16 := by kernel_rfl
theorem mapmakerlaw14_without.bits16 : waitsOk mapmakerlaw14_without.T16.2 mapmakerlaw14_without.B16 = true := by kernel_rfl
set_option maxHeartbeats 8000000 in
set_option maxRecDepth 100000 in
theorem mapmakerlaw14_without.calls (k : Nat) (P0_0_ : Nat → Prop) (A0_0 : Option Addr) (c0_0 : Nat) (l0_0 : List (S39)) (P0_1_ : Nat → Prop) (A0_1 : Option Addr) (c0_1 : Nat) (l0_1 : List (S45)) (P0_2_ : Nat → Prop) (A0_2 : Option Addr) (c0_2 : Nat) (l0_2 : List (S51)) (a1_0 : Int) (a1_1 : Int) (r1 : List (S39)) (r2 : List (S45)) (r3 : List (S51)) (w : World) (hs0_0 : Kd.V k39 39 w w.heap.size (fun k_ => P0_0_ k_) (.slice A0_0 l0_0.length c0_0) l0_0) (hs0_1 : Kd.V k45 45 w w.heap.size (fun k_ => P0_1_ k_) (.slice A0_1 l0_1.length c0_1) l0_1) (hs0_2 : Kd.V k51 51 w w.heap.size (fun k_ => P0_2_ k_) (.slice A0_2 l0_2.length c0_2) l0_2) (h : mapmakerlaw14_without.f k l0_0 l0_1 l0_2 a1_0 a1_1 = some (r1, r2, r3)) :
  Calls Try.prog 33 #[.agg #[.slice A0_0 l0_0.length c0_0, .slice A0_1 l0_1.length c0_1, .slice A0_2 l0_2.length c0_2], .agg #[.int .i64 a1_0, .int .i64 a1_1]] w fun e w' => ∃ v0_ v1_ v2_ : Value, e = .returned (.agg #[v0_, v1_, v2_]) ∧ Kd.N k39 39 w' w.heap.size (fun k_ => ((P0_0_ k_ ∨ P0_1_ k_ ∨ P0_2_ k_) ∨ w.heap.size ≤ k_) ∧ some k_ ≠ (v1_ : Value).ownBlock ∧ some k_ ≠ (v2_ : Value).ownBlock) v0_ r1 ∧ Kd.N k45 45 w' w.heap.size (fun k_ => ((P0_0_ k_ ∨ P0_1_ k_ ∨ P0_2_ k_) ∨ w.heap.size ≤ k_) ∧ some k_ ≠ (v0_ : Value).ownBlock ∧ some k_ ≠ (v2_ : Value).ownBlock) v1_ r2 ∧ Kd.N k51 51 w' w.heap.size (fun k_ => ((P0_0_ k_ ∨ P0_1_ k_ ∨ P0_2_ k_) ∨ w.heap.size ≤ k_) ∧ some k_ ≠ (v0_ : Value).ownBlock ∧ some k_ ≠ (v1_ : Value).ownBlock) v2_ r3 ∧ Below w.heap.size w w' := by
 have hu26 := Try.underlying26
 have hu34 := Try.underlying34
 have hu39 := Try.underlying39
 have hu45 := Try.underlying45
 have hu51 := Try.underlying51
 have HO0_0 := aM (show Kd.V k39 39 w w.heap.size (fun k_ => ((P0_0_ k_ ∨ P0_1_ k_ ∨ P0_2_ k_) ∨ w.heap.size ≤ k_)) (.slice A0_0 l0_0.length c0_0) l0_0 from Kd.V_mono hs0_0 (fun k_ hk => .inl (.inl hk)))
 have HO0_1 := aM (show Kd.V k45 45 w w.heap.size (fun k_ => ((P0_0_ k_ ∨ P0_1_ k_ ∨ P0_2_ k_) ∨ w.heap.size ≤ k_)) (.slice A0_1 l0_1.length c0_1) l0_1 from Kd.V_mono hs0_1 (fun k_ hk => .inl (.inr (.inl hk))))
 have HO0_2 := aM (show Kd.V k51 51 w w.heap.size (fun k_ => ((P0_0_ k_ ∨ P0_1_ k_ ∨ P0_2_ k_) ∨ w.heap.size ≤ k_)) (.slice A0_2 l0_2.length c0_2) l0_2 from Kd.V_mono hs0_2 (fun k_ hk => .inl (.inr (.inr hk))))
 have HB := aM (Below.refl w.heap.size w)
 have H : (mapmakerlaw14_without.l0 k 0 l0_0 l0_1 l0_2 a1_0 a1_1 ([] : List (S39))) = some (r1, r2, r3) := h
 clear h
 have H' := aM H
 clear H
 go_enter Try.func33, Try.ntmps33
 go_wp2_with (first | ((with_reducible refine gate_dst (N := 2) rfl ?_); refine bx (N := 2) (cs := #[.slice A0_0 l0_0.length c0_0, .slice A0_1 l0_1.length c0_1, .slice A0_2 l0_2.length c0_2]) (t := 26) ?_; intro gb524 hg w3 hbox hb; have n0_ := aM (Kd.V_below (Kd.V_elderB (by (with_reducible repeat (first | apply Kd.V_alloc | apply Kd.V_drewN | apply Kd.V_drew)); exact HO0_0.out) gb524 (Nat.le_of_eq hg.symm)) hb); have n1_ := aM (Kd.V_below (Kd.V_elderB (by (with_reducible repeat (first | apply Kd.V_alloc | apply Kd.V_drewN | apply Kd.V_drew)); exact HO0_1.out) gb524 (Nat.le_of_eq hg.symm)) hb); have n2_ := aM (Kd.V_below (Kd.V_elderB (by (with_reducible repeat (first | apply Kd.V_alloc | apply Kd.V_drewN | apply Kd.V_drew)); exact HO0_2.out) gb524 (Nat.le_of_eq hg.symm)) hb); have n3_ := aM (bS (bl) hb); have n4_ := aM (hbox); have n6_ := aM (gw (w := w) hg); (try clear HO0_0); (try clear HO0_1); (try clear HO0_2); (try clear HB); have HO0_0 := n0_; have HO0_1 := n1_; have HO0_2 := n2_; have HB := n3_; have BK524 := n4_; have GE524 := n6_; clear n0_ n1_ n2_ n3_ n4_ n6_ hb hbox hg) | ((with_reducible refine gate_dst (N := 3) rfl ?_); refine bx (N := 3) (cs := #[.int .i64 a1_0, .int .i64 a1_1]) (t := 34) ?_; intro gb525 hg w4 hbox hb; have n0_ := aM (Kd.V_below (Kd.V_elderB (by (with_reducible repeat (first | apply Kd.V_alloc | apply Kd.V_drewN | apply Kd.V_drew)); exact HO0_0.out) gb525 (Nat.le_of_eq hg.symm)) hb); have n1_ := aM (Kd.V_below (Kd.V_elderB (by (with_reducible repeat (first | apply Kd.V_alloc | apply Kd.V_drewN | apply Kd.V_drew)); exact HO0_1.out) gb525 (Nat.le_of_eq hg.symm)) hb); have n2_ := aM (Kd.V_below (Kd.V_elderB (by (with_reducible repeat (first | apply Kd.V_alloc | apply Kd.V_drewN | apply Kd.V_drew)); exact HO0_2.out) gb525 (Nat.le_of_eq hg.symm)) hb); have n3_ := aM (kB (kl BK524) hb); have n4_ := aM (bS (bl) hb); have n5_ := aM (hbox); have n7_ := aM (gw (w := w) hg); have n8_ := aM (nb BK524 hg); have n9_ := aM (nb BK524 hg).symm; (try clear HO0_0); (try clear HO0_1); (try clear HO0_2); (try clear BK524); (try clear HB); have HO0_0 := n0_; have HO0_1 := n1_; have HO0_2 := n2_; have BK524 := n3_; have HB := n4_; have BK525 := n5_; have GE525 := n7_; have NB524_525 := n8_; have NB525_524 := n9_; clear n0_ n1_ n2_ n3_ n4_ n5_ n7_ n8_ n9_ hb hbox hg) | ((with_reducible refine gate_dst (N := 4) rfl ?_); refine bx (N := 4) (cs := #[.slice none 0 0, .slice none 0 0, .slice none 0 0]) (t := 26) ?_; intro gb526 hg w5 hbox hb; have n0_ := aM (Kd.V_below (Kd.V_elderB (by (with_reducible repeat (first | apply Kd.V_alloc | apply Kd.V_drewN | apply Kd.V_drew)); exact HO0_0.out) gb526 (Nat.le_of_eq hg.symm)) hb); have n1_ := aM (Kd.V_below (Kd.V_elderB (by (with_reducible repeat (first | apply Kd.V_alloc | apply Kd.V_drewN | apply Kd.V_drew)); exact HO0_1.out) gb526 (Nat.le_of_eq hg.symm)) hb); have n2_ := aM (Kd.V_below (Kd.V_elderB (by (with_reducible repeat (first | apply Kd.V_alloc | apply Kd.V_drewN | apply Kd.V_drew)); exact HO0_2.out) gb526 (Nat.le_of_eq hg.symm)) hb); have n3_ := aM (kB (kl BK524) hb); have n4_ := aM (kB (kl BK525) hb); have n5_ := aM (bS (bl) hb); have n6_ := aM (hbox); have n8_ := aM (gw (w := w) hg); have n9_ := aM (nb BK524 hg); have n10_ := aM (nb BK524 hg).symm; have n11_ := aM (nb BK525 hg); have n12_ := aM (nb BK525 hg).symm; (try clear HO0_0); (try clear HO0_1); (try clear HO0_2); (try clear BK524); (try clear BK525); (try clear HB); have HO0_0 := n0_; have HO0_1 := n1_; have HO0_2 := n2_; have BK524 := n3_; have BK525 := n4_; have HB := n5_; have BK526 := n6_; have GE526 := n8_; have NB524_526 := n9_; have NB526_524 := n10_; have NB525_526 := n11_; have NB526_525 := n12_; clear n0_ n1_ n2_ n3_ n4_ n5_ n6_ n8_ n9_ n10_ n11_ n12_ hb hbox hg) | ((with_reducible refine gate_dst (N := 5) rfl ?_); refine bx (N := 5) (cs := #[.slice none 0 0, .slice none 0 0, .slice none 0 0]) (t := 26) ?_; intro gb527 hg w6 hbox hb; have n0_ := aM (Kd.V_below (Kd.V_elderB (by (with_reducible repeat (first | apply Kd.V_alloc | apply Kd.V_drewN | apply Kd.V_drew)); exact HO0_0.out) gb527 (Nat.le_of_eq hg.symm)) hb); have n1_ := aM (Kd.V_below (Kd.V_elderB (by (with_reducible repeat (first | apply Kd.V_alloc | apply Kd.V_drewN | apply Kd.V_drew)); exact HO0_1.out) gb527 (Nat.le_of_eq hg.symm)) hb); have n2_ := aM (Kd.V_below (Kd.V_elderB (by (with_reducible repeat (first | apply Kd.V_alloc | apply Kd.V_drewN | apply Kd.V_drew)); exact HO0_2.out) gb527 (Nat.le_of_eq hg.symm)) hb); have n3_ := aM (kB (kl BK524) hb); have n4_ := aM (kB (kl BK525) hb); have n5_ := aM (kB (kl BK526) hb); have n6_ := aM (bS (bl) hb); have n7_ := aM (hbox); have n9_ := aM (gw (w := w) hg); have n10_ := aM (nb BK524 hg); have n11_ := aM (nb BK524 hg).symm; have n12_ := aM (nb BK525 hg); have n13_ := aM (nb BK525 hg).symm; have n14_ := aM (nb BK526 hg); have n15_ := aM (nb BK526 hg).symm; (try clear HO0_0); (try clear HO0_1); (try clear HO0_2); (try clear BK524); (try clear BK525); (try clear BK526); (try clear HB); have HO0_0 := n0_; have HO0_1 := n1_; have HO0_2 := n2_; have BK524 := n3_; have BK525 := n4_; have BK526 := n5_; have HB := n6_; have BK527 := n7_; have GE527 := n9_; have NB524_527 := n10_; have NB527_524 := n11_; have NB525_527 := n12_; have NB527_525 := n13_; have NB526_527 := n14_; have NB527_526 := n15_; clear n0_ n1_ n2_ n3_ n4_ n5_ n6_ n7_ n9_ n10_ n11_ n12_ n13_ n14_ n15_ hb hbox hg; have hnb7 := NB527_524.out; have hnc7 := NB524_527.out; have hnb8 := NB527_525.out; have hnc8 := NB525_527.out; have hnb9 := NB527_526.out; have hnc9 := NB526_527.out; obtain ⟨hcz10_0, hcz10_1, hcz10_2, hfz10_0, hfz10_1, hfz10_2⟩ := bc3 BK527))
 go_loopg [6] k (fun kq v6 w' => ∃ (x6_1 : Int) (x528000_1 : List (S39)) (u528000 : Value), v6 = .int .i64 x6_1 ∧ Aside0 (mapmakerlaw14_without.l0 kq x6_1 l0_0 l0_1 l0_2 a1_0 a1_1 x528000_1 = some (r1, r2, r3)) ∧ Aside0 (kq ≤ k) ∧ Aside0 (Kd.V k39 39 w' w.heap.size (fun k_ => ((P0_0_ k_ ∨ P0_1_ k_ ∨ P0_2_ k_) ∨ w.heap.size ≤ k_) ∧ some k_ ≠ (u528000 : Value).ownBlock ∧ k_ ≠ gb524 ∧ k_ ≠ gb525 ∧ k_ ≠ gb526 ∧ k_ ≠ gb527) (.slice A0_0 l0_0.length c0_0) l0_0) ∧ Aside0 (Kd.V k45 45 w' w.heap.size (fun k_ => ((P0_0_ k_ ∨ P0_1_ k_ ∨ P0_2_ k_) ∨ w.heap.size ≤ k_) ∧ some k_ ≠ (u528000 : Value).ownBlock ∧ k_ ≠ gb524 ∧ k_ ≠ gb525 ∧ k_ ≠ gb526 ∧ k_ ≠ gb527) (.slice A0_1 l0_1.length c0_1) l0_1) ∧ Aside0 (Kd.V k51 51 w' w.heap.size (fun k_ => ((P0_0_ k_ ∨ P0_1_ k_ ∨ P0_2_ k_) ∨ w.heap.size ≤ k_) ∧ some k_ ≠ (u528000 : Value).ownBlock ∧ k_ ≠ gb524 ∧ k_ ≠ gb525 ∧ k_ ≠ gb526 ∧ k_ ≠ gb527) (.slice A0_2 l0_2.length c0_2) l0_2) ∧ Aside0 (Kd.N k39 39 w' w.heap.size (fun k_ => ((P0_0_ k_ ∨ P0_1_ k_ ∨ P0_2_ k_) ∨ w.heap.size ≤ k_) ∧ k_ ≠ gb524 ∧ k_ ≠ gb525 ∧ k_ ≠ gb526 ∧ k_ ≠ gb527) u528000 x528000_1) ∧ Aside0 (w'.heap[gb524]? = some (.cells #[(.slice A0_0 l0_0.length c0_0), (.slice A0_1 l0_1.length c0_1), (.slice A0_2 l0_2.length c0_2)] 26 (0, 0))) ∧ Aside0 (w'.heap[gb525]? = some (.cells #[.int .i64 a1_0, .int .i64 a1_1] 34 (0, 0))) ∧ Aside0 (w'.heap[gb526]? = some (.cells #[(.slice none 0 0), (.slice none 0 0), (.slice none 0 0)] 26 (0, 0))) ∧ Aside0 (w'.heap[gb527]? = some (.cells #[u528000, (.slice none 0 0), (.slice none 0 0)] 26 (0, 0))) ∧ Aside0 (Below w.heap.size w w'))
 case atStart => exact ⟨(0), (([] : List (S39))), (.slice none 0 0), (by first | rfl | (simp; done) | (simp [*]; done)), H', ⟨Nat.le_refl _⟩, ⟨by (with_reducible repeat (first | apply Kd.V_alloc | apply Kd.V_drewN | apply Kd.V_drew)); exact Kd.V_mono (Kd.V_far (p := ⟨gb527, 2, none⟩) (Kd.V_far (p := ⟨gb527, 1, none⟩) (Kd.V_far (p := ⟨gb527, 0, none⟩) (Kd.V_mono HO0_0.out (fun k_ hk => (⟨hk, hk.2⟩ : _ ∧ k_ ≠ gb527))) (fun _ hk => hk.2) (.slice none 0 0)) (fun _ hk => hk.2) (.slice none 0 0)) (fun _ hk => hk.2) (.slice none 0 0)) (fun _ hk => ⟨hk.1.1.1.1.1, ⟨(by simp [Value.ownBlock]), ⟨hk.1.1.1.1.2, ⟨hk.1.1.1.2, ⟨hk.1.1.2, hk.1.2⟩⟩⟩⟩⟩)⟩, ⟨by (with_reducible repeat (first | apply Kd.V_alloc | apply Kd.V_drewN | apply Kd.V_drew)); exact Kd.V_mono (Kd.V_far (p := ⟨gb527, 2, none⟩) (Kd.V_far (p := ⟨gb527, 1, none⟩) (Kd.V_far (p := ⟨gb527, 0, none⟩) (Kd.V_mono HO0_1.out (fun k_ hk => (⟨hk, hk.2⟩ : _ ∧ k_ ≠ gb527))) (fun _ hk => hk.2) (.slice none 0 0)) (fun _ hk => hk.2) (.slice none 0 0)) (fun _ hk => hk.2) (.slice none 0 0)) (fun _ hk => ⟨hk.1.1.1.1.1, ⟨(by simp [Value.ownBlock]), ⟨hk.1.1.1.1.2, ⟨hk.1.1.1.2, ⟨hk.1.1.2, hk.1.2⟩⟩⟩⟩⟩)⟩, ⟨by (with_reducible repeat (first | apply Kd.V_alloc | apply Kd.V_drewN | apply Kd.V_drew)); exact Kd.V_mono (Kd.V_far (p := ⟨gb527, 2, none⟩) (Kd.V_far (p := ⟨gb527, 1, none⟩) (Kd.V_far (p := ⟨gb527, 0, none⟩) (Kd.V_mono HO0_2.out (fun k_ hk => (⟨hk, hk.2⟩ : _ ∧ k_ ≠ gb527))) (fun _ hk => hk.2) (.slice none 0 0)) (fun _ hk => hk.2) (.slice none 0 0)) (fun _ hk => hk.2) (.slice none 0 0)) (fun _ hk => ⟨hk.1.1.1.1.1, ⟨(by simp [Value.ownBlock]), ⟨hk.1.1.1.1.2, ⟨hk.1.1.1.2, ⟨hk.1.1.2, hk.1.2⟩⟩⟩⟩⟩)⟩, ⟨by first | exact Kd.S_nil _ _ _ _ _ | exact Kd.N_nil _ _ _ _ _ | exact Kd.V_nil _ _ _ _ _ | exact Kd.Q_nil _ _ _ _ _ | exact Kd.R_nil _ _ _ _ _⟩, ⟨by (with_reducible repeat (first | refine kN ?_ _ | refine kD ?_ | refine kA ?_ _)); refine blk_far ?_ NB524_527.out _; (with_reducible repeat (first | refine kN ?_ _ | refine kD ?_ | refine kA ?_ _)); refine blk_far ?_ NB524_527.out _; (with_reducible repeat (first | refine kN ?_ _ | refine kD ?_ | refine kA ?_ _)); refine blk_far ?_ NB524_527.out _; (with_reducible repeat (first | refine kN ?_ _ | refine kD ?_ | refine kA ?_ _)); exact BK524.out⟩, ⟨by (with_reducible repeat (first | refine kN ?_ _ | refine kD ?_ | refine kA ?_ _)); refine blk_far ?_ NB525_527.out _; (with_reducible repeat (first | refine kN ?_ _ | refine kD ?_ | refine kA ?_ _)); refine blk_far ?_ NB525_527.out _; (with_reducible repeat (first | refine kN ?_ _ | refine kD ?_ | refine kA ?_ _)); refine blk_far ?_ NB525_527.out _; (with_reducible repeat (first | refine kN ?_ _ | refine kD ?_ | refine kA ?_ _)); exact BK525.out⟩, ⟨by (with_reducible repeat (first | refine kN ?_ _ | refine kD ?_ | refine kA ?_ _)); refine blk_far ?_ NB526_527.out _; (with_reducible repeat (first | refine kN ?_ _ | refine kD ?_ | refine kA ?_ _)); refine blk_far ?_ NB526_527.out _; (with_reducible repeat (first | refine kN ?_ _ | refine kD ?_ | refine kA ?_ _)); refine blk_far ?_ NB526_527.out _; (with_reducible repeat (first | refine kN ?_ _ | refine kD ?_ | refine kA ?_ _)); exact BK526.out⟩, ⟨by (with_reducible repeat (first | refine kN ?_ _ | refine kD ?_ | refine kA ?_ _)); refine kP (cs := #[.slice none 0 0, .slice none 0 0, .slice none 0 0]) ?_ 2 _ rfl; (with_reducible repeat (first | refine kN ?_ _ | refine kD ?_ | refine kA ?_ _)); refine kP (cs := #[.slice none 0 0, .slice none 0 0, .slice none 0 0]) ?_ 1 _ rfl; (with_reducible repeat (first | refine kN ?_ _ | refine kD ?_ | refine kA ?_ _)); refine kP (cs := #[.slice none 0 0, .slice none 0 0, .slice none 0 0]) ?_ 0 _ rfl; (with_reducible repeat (first | refine kN ?_ _ | refine kD ?_ | refine kA ?_ _)); exact BK527.out⟩, ⟨bl⟩⟩
 case round =>
  clear H'
  try clear p2
  try clear c3
  try clear c7
  try clear c8
  try clear c9
  try clear hcz10_0 hcz10_1 hcz10_2 hfz10_0 hfz10_1 hfz10_2
  obtain ⟨x6_1, x528000_1, u528000, rfl, HA, HK1, HO_525000, HO_525001, HO_525002, HO_528000, BK524, BK525, BK526, BK527, HB⟩ := hrel
  cases gk with
  | zero => exact absurd HA.out (by simp [mapmakerlaw14_without.l0])
  | succ k1 =>
   have H := HA.out
   clear HA
   simp only [mapmakerlaw14_without.l0] at H
   by_cases c11 : x6_1 < (l0_0.length : Int)
   ·rw [if_pos c11] at H
    have c11b0 : decide (x6_1 < (l0_0.length : Int)) = true := decide_eq_true c11
    clear c11
    by_cases c12 : a1_0 = 1
    ·rw [if_pos c12] at H
     have c12b0 : (a1_0 == 1) = true := beq_iff_eq.mpr c12
     have c12b1 : (a1_0 != 1) = false := bne_eq_false_iff_eq.mpr c12
     clear c12
     by_cases c13 : 0 ≤ x6_1
     ·rw [if_pos c13] at H
      have c13b0 : decide (0 ≤ x6_1) = true := decide_eq_true c13
      clear c13
      by_cases c14 : ((rd_T39 l0_0 x6_1).f0) = a1_1
      ·rw [if_pos c14] at H
       have c14b0 : (((rd_T39 l0_0 x6_1).f0) == a1_1) = true := beq_iff_eq.mpr c14
       have c14b1 : (((rd_T39 l0_0 x6_1).f0) != a1_1) = false := bne_eq_false_iff_eq.mpr c14
       clear c14
       have H' := aM H
       clear H
       have hnb15 := NB524_525.out
       have hnc15 := NB525_524.out
       have hnb16 := NB524_526.out
       have hnc16 := NB526_524.out
       have hnb17 := NB524_527.out
       have hnc17 := NB527_524.out
       obtain ⟨hcz18_0, hcz18_1, hcz18_2, hfz18_0, hfz18_1, hfz18_2⟩ := bc3 BK524
       try go_wp2
       replace HO_525000 := aM (Kd.V_drew HO_525000.out)
       replace HO_525001 := aM (Kd.V_drew HO_525001.out)
       replace HO_525002 := aM (Kd.V_drew HO_525002.out)
       replace HO_528000 := aM (Kd.N_drew HO_528000.out)
       replace BK524 := aM (kD BK524.out)
       replace BK525 := aM (kD BK525.out)
       replace BK526 := aM (kD BK526.out)
       replace BK527 := aM (kD BK527.out)
       replace HB := aM (bD HB.out)
       have p528 : 0 ≤ (x6_1 : Int) := oT
       have q528 : x6_1 < (l0_0.length : Int) := oT
       obtain ⟨ad528, A528_3, c528_3, e528, hx528_0, hx528_1, hx528_2, hx528_3, hl528_3, hi528_3⟩ := at_T39 (Kd.V_reads' HO_525000.out).2.2 x6_1 p528 q528
       cases e528
       obtain ⟨ce528, hce528, hMe528, hcc528⟩ := Kd.V_get HO_525000.out z39 x6_1 p528 (by first | exact q528 | exact of_decide_eq_true (by first | (with_reducible assumption) | assumption) | (have e_ := (Kd.V_reads' HO_525000.out).1; omega))
       obtain ⟨ua528_3, uc528_3, rfl, ul528_3, ge528_3⟩ := k39_openF hMe528
       have hv528_3 := hcc528 3 _ rfl
       rw [add_field _ _ 3 (by omega)] at hv528_3
       replace hv528_3 := Option.some.inj (hv528_3.symm.trans hx528_3)
       injection hv528_3 with hva_ hvn_ hvc_
       rw [hva_] at ge528_3
       rw [hvc_] at ul528_3
       have HL528_3 := aM (show Kd.V k70 70 _ w.heap.size _ _ ((rd_T39 l0_0 x6_1).f2) from Kd.V_mk ul528_3 ge528_3)
       clear hva_ hvn_ hvc_ ge528_3 ul528_3 hcc528 hce528
       have HR528_3 := aM hi528_3
       have HC528_3 := aM hl528_3
       clear hi528_3 hl528_3
       replace p528 := eq_true p528
       replace q528 := eq_true q528
       refine start_ (n := 14) (S := fun w' => w'.cell? ⟨gb525, 0, none⟩ = some (.int .i64 a1_0) ∧ w'.cell? ⟨gb525, 1, none⟩ = some (.int .i64 a1_1) ∧ w'.cell? ⟨gb524, 0, none⟩ = some (.slice (some ad528) l0_0.length c0_0) ∧ w'.cell? ⟨gb524, 1, none⟩ = some (.slice A0_1 l0_1.length c0_1) ∧ w'.cell? ⟨gb524, 2, none⟩ = some (.slice A0_2 l0_2.length c0_2) ∧ w'.cell? (ad528.add ((x6_1).toNat * 4)) = some (.int .i64 ((rd_T39 l0_0 x6_1).f0)) ∧ w'.cell? ⟨(ad528.add ((x6_1).toNat * 4)).block, (ad528.add ((x6_1).toNat * 4)).off + 1, none⟩ = some (.int .i64 ((rd_T39 l0_0 x6_1).f1.f0)) ∧ w'.cell? ⟨(ad528.add ((x6_1).toNat * 4)).block, (ad528.add ((x6_1).toNat * 4)).off + 2, none⟩ = some (.int .i64 ((rd_T39 l0_0 x6_1).f1.f1)) ∧ w'.cell? ⟨(ad528.add ((x6_1).toNat * 4)).block, (ad528.add ((x6_1).toNat * 4)).off + 3, none⟩ = some (.slice A528_3 ((rd_T39 l0_0 x6_1).f2).length c528_3)) (ds := []) #[false, false, false, false, false, false, false, false, false, false, false, false, false, false] (by kernel_rfl) rfl rfl ⟨(kC BK525.out 0).trans rfl, (kC BK525.out 1).trans rfl, (kC BK524.out 0).trans rfl, (kC BK524.out 1).trans rfl, (kC BK524.out 2).trans rfl, hx528_0, hx528_1, hx528_2, hx528_3⟩ (fun hHeld => ?_); refine with_tabW mapmakerlaw14_without.tab5 mapmakerlaw14_without.bits5 (fun HT_ HW_ => ?_)
       generalize wr.drew = w19 at HO_525000 HO_525001 HO_525002 HO_528000 BK524 BK525 BK526 BK527 HB HL528_3 HR528_3 hx528_0 hx528_1 hx528_2 hx528_3 hHeld ⊢
       refine pure_ (i := 0) (N := some 17) (v := ?_) (a' := ?_) (ba 14 1) rfl rfl (any_of HT_.out (by kernel_rfl)) (fun _ _ _ h => h) (Or.inl ⟨by rfl, ?_⟩) ?_ ?_
       rotate_left
       ·intro w'
        go_simp
        with_reducible rfl
       rotate_left
       ·simp only [Act.put, sA, sB, sC, i64_w, i32_w]
        rfl
       refine take_ (i := 1) (N := some 18) (v := ?_) (a' := ?_) (ba 14 3) rfl rfl (take_ofW HT_.out HW_.out (by kernel_rfl)) (fun _ _ _ h => h) (Or.inl ⟨by rfl, ?_⟩) hHeld ?_ ?_
       rotate_left
       ·rintro w' ⟨s0, s1, s2, s3, s4, s5, s6, s7, s8⟩
        go_simp
        with_reducible rfl
       rotate_left
       ·simp only [Act.put, sA, sB, sC, i64_w, i32_w]
        rfl
       refine pure_ (i := 2) (N := some 19) (v := ?_) (a' := ?_) (ba 14 7) rfl rfl (any_of HT_.out (by kernel_rfl)) (fun _ _ _ h => h) (Or.inl ⟨by rfl, ?_⟩) ?_ ?_
       rotate_left
       ·intro w'
        go_simp
        with_reducible rfl
       rotate_left
       ·simp only [Act.put, sA, sB, sC, i64_w, i32_w]
        rfl
       refine pure_ (i := 3) (N := some 20) (v := ?_) (a' := ?_) (ba 14 15) rfl rfl (any_of HT_.out (by kernel_rfl)) (fun _ _ _ h => h) (Or.inl ⟨by rfl, ?_⟩) ?_ ?_
       rotate_left
       ·intro w'
        go_simp
        with_reducible rfl
       rotate_left
       ·simp only [Act.put, sA, sB, sC, i64_w, i32_w]
        rfl
       refine pure_ (i := 4) (N := some 21) (v := ?_) (a' := ?_) (ba 14 31) rfl rfl (any_of HT_.out (by kernel_rfl)) (fun _ _ _ h => h) (Or.inl ⟨by rfl, ?_⟩) ?_ ?_
       rotate_left
       ·intro w'
        go_simp
        with_reducible rfl
       rotate_left
       ·simp only [Act.put, sA, sB, sC, i64_w, i32_w]
        rfl
       refine pure_ (i := 6) (N := some 23) (v := ?_) (a' := ?_) (ba 14 95) rfl rfl (any_of HT_.out (by kernel_rfl)) (fun _ _ _ h => h) (Or.inl ⟨by rfl, ?_⟩) ?_ ?_
       rotate_left
       ·intro w'
        go_simp
        with_reducible rfl
       rotate_left
       ·simp only [Act.put, sA, sB, sC, i64_w, i32_w]
        rfl
       refine pure_ (i := 10) (N := some 27) (v := ?_) (a' := ?_) (ba 14 1119) rfl rfl (any_of HT_.out (by kernel_rfl)) (fun _ _ _ h => h) (Or.inl ⟨by rfl, ?_⟩) ?_ ?_
       rotate_left
       ·intro w'
        go_simp
        with_reducible rfl
       rotate_left
       ·simp only [Act.put, sA, sB, sC, i64_w, i32_w]
        rfl
       refine take_ (i := 5) (N := some 22) (v := ?_) (a' := ?_) (ba 14 1151) rfl rfl (take_ofW HT_.out HW_.out (by kernel_rfl)) (fun _ _ _ h => h) (Or.inl ⟨by rfl, ?_⟩) hHeld ?_ ?_
       rotate_left
       ·rintro w' ⟨s0, s1, s2, s3, s4, s5, s6, s7, s8⟩
        go_simp
        with_reducible rfl
       rotate_left
       ·simp only [Act.put, sA, sB, sC, i64_w, i32_w]
        rfl
       refine pure_ (i := 7) (N := some 24) (v := ?_) (a' := ?_) (ba 14 1279) rfl rfl (any_of HT_.out (by kernel_rfl)) (fun _ _ _ h => h) (Or.inl ⟨by rfl, ?_⟩) ?_ ?_
       rotate_left
       ·intro w'
        go_simp
        with_reducible rfl
       rotate_left
       ·simp only [Act.put, sA, sB, sC, i64_w, i32_w]
        rfl
       refine pure_ (i := 8) (N := some 25) (v := ?_) (a' := ?_) (ba 14 1535) rfl rfl (any_of HT_.out (by kernel_rfl)) (fun _ _ _ h => h) (Or.inl ⟨by rfl, ?_⟩) ?_ ?_
       rotate_left
       ·intro w'
        go_simp
        with_reducible rfl
       rotate_left
       ·simp only [Act.put, sA, sB, sC, i64_w, i32_w]
        rfl
       refine take_ (i := 9) (N := some 26) (v := ?_) (a' := ?_) (ba 14 2047) rfl rfl (take_ofW HT_.out HW_.out (by kernel_rfl)) (fun _ _ _ h => h) (Or.inl ⟨by rfl, ?_⟩) hHeld ?_ ?_
       rotate_left
       ·rintro w' ⟨s0, s1, s2, s3, s4, s5, s6, s7, s8⟩
        go_simp
        with_reducible rfl
       rotate_left
       ·simp only [Act.put, sA, sB, sC, i64_w, i32_w]
        rfl
       refine take_ (i := 11) (N := some 28) (v := ?_) (a' := ?_) (ba 14 4095) rfl rfl (take_ofW HT_.out HW_.out (by kernel_rfl)) (fun _ _ _ h => h) (Or.inl ⟨by rfl, ?_⟩) hHeld ?_ ?_
       rotate_left
       ·rintro w' ⟨s0, s1, s2, s3, s4, s5, s6, s7, s8⟩
        go_simp
        with_reducible rfl
       rotate_left
       ·simp only [Act.put, sA, sB, sC, i64_w, i32_w]
        rfl
       refine pure_ (i := 12) (N := some 29) (v := ?_) (a' := ?_) (ba 14 8191) rfl rfl (any_of HT_.out (by kernel_rfl)) (fun _ _ _ h => h) (Or.inl ⟨by rfl, ?_⟩) ?_ ?_
       rotate_left
       ·intro w'
        go_simp
        with_reducible rfl
       rotate_left
       ·simp only [Act.put, sA, sB, sC, i64_w, i32_w]
        rfl
       refine pure_ (i := 13) (N := some 30) (v := ?_) (a' := ?_) (ba 14 16383) rfl rfl (any_of HT_.out (by kernel_rfl)) (fun _ _ _ h => h) (Or.inl ⟨by rfl, ?_⟩) ?_ ?_
       rotate_left
       ·intro w'
        go_simp
        with_reducible rfl
       rotate_left
       ·simp only [Act.put, sA, sB, sC, i64_w, i32_w]
        rfl
       refine done_ (done_of HT_.out (by kernel_rfl)) ?_
       try go_wp2
       go_roundg k1
       case measure => have := HK1.out; omega
       case rel => exact ⟨(wrap64 (x6_1 + 1)), (x528000_1), (u528000), (by first | rfl | (simp; done) | (simp [*]; done)), H', ⟨by have := HK1.out; omega⟩, ⟨by (with_reducible repeat (first | apply Kd.V_alloc | apply Kd.V_drewN | apply Kd.V_drew)); exact HO_525000.out⟩, ⟨by (with_reducible repeat (first | apply Kd.V_alloc | apply Kd.V_drewN | apply Kd.V_drew)); exact HO_525001.out⟩, ⟨by (with_reducible repeat (first | apply Kd.V_alloc | apply Kd.V_drewN | apply Kd.V_drew)); exact HO_525002.out⟩, ⟨by (with_reducible repeat (first | apply Kd.N_alloc | apply Kd.N_drewN | apply Kd.N_drew)); exact HO_528000.out⟩, ⟨by (with_reducible repeat (first | refine kN ?_ _ | refine kD ?_ | refine kA ?_ _)); exact BK524.out⟩, ⟨by (with_reducible repeat (first | refine kN ?_ _ | refine kD ?_ | refine kA ?_ _)); exact BK525.out⟩, ⟨by (with_reducible repeat (first | refine kN ?_ _ | refine kD ?_ | refine kA ?_ _)); exact BK526.out⟩, ⟨by (with_reducible repeat (first | refine kN ?_ _ | refine kD ?_ | refine kA ?_ _)); exact BK527.out⟩, ⟨bl⟩⟩
      ·rw [if_neg c14] at H
       have c14b0 : (((rd_T39 l0_0 x6_1).f0) == a1_1) = false := beq_eq_false_iff_ne.mpr c14
       have c14b1 : (((rd_T39 l0_0 x6_1).f0) != a1_1) = true := bne_iff_ne.mpr c14
       by_cases c20 : x528000_1.length < 2932031007402
       ·rw [if_pos c20] at H
        have LMc20 := aM c20
        clear c20
        obtain ⟨y530, hy530⟩ : ∃ y_ : List (S39), y_ = (x528000_1 ++ [(⟨(rd_T39 l0_0 x6_1).f0, (⟨(rd_T39 l0_0 x6_1).f1.f0, (rd_T39 l0_0 x6_1).f1.f1⟩ : S36), (rd_T39 l0_0 x6_1).f2⟩ : S39)]) := ⟨_, rfl⟩
        replace H : (mapmakerlaw14_without.l0 k1 (wrap64 (x6_1 + 1)) l0_0 l0_1 l0_2 a1_0 a1_1 y530) = some (r1, r2, r3) := by first | (rw [hy530]; with_reducible exact H) | (have H2_ := (Option.bind_some _ _).symm.trans H; rw [hy530]; with_reducible exact H2_) | (have H2_ := (Option.bind_some _ _).symm.trans H; with_reducible exact H2_) | with_reducible exact H | (rw [hy530]; exact H) | exact H
        have Ny530 := aM hy530
        clear hy530
        have H' := aM H
        clear H
        have hnb21 := NB524_525.out
        have hnc21 := NB525_524.out
        have hnb22 := NB524_526.out
        have hnc22 := NB526_524.out
        have hnb23 := NB524_527.out
        have hnc23 := NB527_524.out
        obtain ⟨hcz24_0, hcz24_1, hcz24_2, hfz24_0, hfz24_1, hfz24_2⟩ := bc3 BK524
        try go_wp2
        replace HO_525000 := aM (Kd.V_drew HO_525000.out)
        replace HO_525001 := aM (Kd.V_drew HO_525001.out)
        replace HO_525002 := aM (Kd.V_drew HO_525002.out)
        replace HO_528000 := aM (Kd.N_drew HO_528000.out)
        replace BK524 := aM (kD BK524.out)
        replace BK525 := aM (kD BK525.out)
        replace BK526 := aM (kD BK526.out)
        replace BK527 := aM (kD BK527.out)
        replace HB := aM (bD HB.out)
        have p528 : 0 ≤ (x6_1 : Int) := oT
        have q528 : x6_1 < (l0_0.length : Int) := oT
        obtain ⟨ad528, A528_3, c528_3, e528, hx528_0, hx528_1, hx528_2, hx528_3, hl528_3, hi528_3⟩ := at_T39 (Kd.V_reads' HO_525000.out).2.2 x6_1 p528 q528
        cases e528
        obtain ⟨ce528, hce528, hMe528, hcc528⟩ := Kd.V_get HO_525000.out z39 x6_1 p528 (by first | exact q528 | exact of_decide_eq_true (by first | (with_reducible assumption) | assumption) | (have e_ := (Kd.V_reads' HO_525000.out).1; omega))
        obtain ⟨ua528_3, uc528_3, rfl, ul528_3, ge528_3⟩ := k39_openF hMe528
        have hv528_3 := hcc528 3 _ rfl
        rw [add_field _ _ 3 (by omega)] at hv528_3
        replace hv528_3 := Option.some.inj (hv528_3.symm.trans hx528_3)
        injection hv528_3 with hva_ hvn_ hvc_
        rw [hva_] at ge528_3
        rw [hvc_] at ul528_3
        have HL528_3 := aM (show Kd.V k70 70 _ w.heap.size _ _ ((rd_T39 l0_0 x6_1).f2) from Kd.V_mk ul528_3 ge528_3)
        clear hva_ hvn_ hvc_ ge528_3 ul528_3 hcc528 hce528
        have HR528_3 := aM hi528_3
        have HC528_3 := aM hl528_3
        clear hi528_3 hl528_3
        replace p528 := eq_true p528
        replace q528 := eq_true q528
        refine start_ (n := 14) (S := fun w' => w'.cell? ⟨gb525, 0, none⟩ = some (.int .i64 a1_0) ∧ w'.cell? ⟨gb525, 1, none⟩ = some (.int .i64 a1_1) ∧ w'.cell? ⟨gb524, 0, none⟩ = some (.slice (some ad528) l0_0.length c0_0) ∧ w'.cell? ⟨gb524, 1, none⟩ = some (.slice A0_1 l0_1.length c0_1) ∧ w'.cell? ⟨gb524, 2, none⟩ = some (.slice A0_2 l0_2.length c0_2) ∧ w'.cell? (ad528.add ((x6_1).toNat * 4)) = some (.int .i64 ((rd_T39 l0_0 x6_1).f0)) ∧ w'.cell? ⟨(ad528.add ((x6_1).toNat * 4)).block, (ad528.add ((x6_1).toNat * 4)).off + 1, none⟩ = some (.int .i64 ((rd_T39 l0_0 x6_1).f1.f0)) ∧ w'.cell? ⟨(ad528.add ((x6_1).toNat * 4)).block, (ad528.add ((x6_1).toNat * 4)).off + 2, none⟩ = some (.int .i64 ((rd_T39 l0_0 x6_1).f1.f1)) ∧ w'.cell? ⟨(ad528.add ((x6_1).toNat * 4)).block, (ad528.add ((x6_1).toNat * 4)).off + 3, none⟩ = some (.slice A528_3 ((rd_T39 l0_0 x6_1).f2).length c528_3)) (ds := []) #[false, false, false, false, false, false, false, false, false, false, false, false, false, false] (by kernel_rfl) rfl rfl ⟨(kC BK525.out 0).trans rfl, (kC BK525.out 1).trans rfl, (kC BK524.out 0).trans rfl, (kC BK524.out 1).trans rfl, (kC BK524.out 2).trans rfl, hx528_0, hx528_1, hx528_2, hx528_3⟩ (fun hHeld => ?_); refine with_tabW mapmakerlaw14_without.tab5 mapmakerlaw14_without.bits5 (fun HT_ HW_ => ?_)
        generalize wr.drew = w25 at HO_525000 HO_525001 HO_525002 HO_528000 BK524 BK525 BK526 BK527 HB HL528_3 HR528_3 hx528_0 hx528_1 hx528_2 hx528_3 hHeld ⊢
        refine pure_ (i := 0) (N := some 17) (v := ?_) (a' := ?_) (ba 14 1) rfl rfl (any_of HT_.out (by kernel_rfl)) (fun _ _ _ h => h) (Or.inl ⟨by rfl, ?_⟩) ?_ ?_
        rotate_left
        ·intro w'
         go_simp
         with_reducible rfl
        rotate_left
        ·simp only [Act.put, sA, sB, sC, i64_w, i32_w]
         rfl
        refine take_ (i := 1) (N := some 18) (v := ?_) (a' := ?_) (ba 14 3) rfl rfl (take_ofW HT_.out HW_.out (by kernel_rfl)) (fun _ _ _ h => h) (Or.inl ⟨by rfl, ?_⟩) hHeld ?_ ?_
        rotate_left
        ·rintro w' ⟨s0, s1, s2, s3, s4, s5, s6, s7, s8⟩
         go_simp
         with_reducible rfl
        rotate_left
        ·simp only [Act.put, sA, sB, sC, i64_w, i32_w]
         rfl
        refine pure_ (i := 2) (N := some 19) (v := ?_) (a' := ?_) (ba 14 7) rfl rfl (any_of HT_.out (by kernel_rfl)) (fun _ _ _ h => h) (Or.inl ⟨by rfl, ?_⟩) ?_ ?_
        rotate_left
        ·intro w'
         go_simp
         with_reducible rfl
        rotate_left
        ·simp only [Act.put, sA, sB, sC, i64_w, i32_w]
         rfl
        refine pure_ (i := 3) (N := some 20) (v := ?_) (a' := ?_) (ba 14 15) rfl rfl (any_of HT_.out (by kernel_rfl)) (fun _ _ _ h => h) (Or.inl ⟨by rfl, ?_⟩) ?_ ?_
        rotate_left
        ·intro w'
         go_simp
         with_reducible rfl
        rotate_left
        ·simp only [Act.put, sA, sB, sC, i64_w, i32_w]
         rfl
        refine pure_ (i := 4) (N := some 21) (v := ?_) (a' := ?_) (ba 14 31) rfl rfl (any_of HT_.out (by kernel_rfl)) (fun _ _ _ h => h) (Or.inl ⟨by rfl, ?_⟩) ?_ ?_
        rotate_left
        ·intro w'
         go_simp
         with_reducible rfl
        rotate_left
        ·simp only [Act.put, sA, sB, sC, i64_w, i32_w]
         rfl
        refine pure_ (i := 6) (N := some 23) (v := ?_) (a' := ?_) (ba 14 95) rfl rfl (any_of HT_.out (by kernel_rfl)) (fun _ _ _ h => h) (Or.inl ⟨by rfl, ?_⟩) ?_ ?_
        rotate_left
        ·intro w'
         go_simp
         with_reducible rfl
        rotate_left
        ·simp only [Act.put, sA, sB, sC, i64_w, i32_w]
         rfl
        refine pure_ (i := 10) (N := some 27) (v := ?_) (a' := ?_) (ba 14 1119) rfl rfl (any_of HT_.out (by kernel_rfl)) (fun _ _ _ h => h) (Or.inl ⟨by rfl, ?_⟩) ?_ ?_
        rotate_left
        ·intro w'
         go_simp
         with_reducible rfl
        rotate_left
        ·simp only [Act.put, sA, sB, sC, i64_w, i32_w]
         rfl
        refine take_ (i := 5) (N := some 22) (v := ?_) (a' := ?_) (ba 14 1151) rfl rfl (take_ofW HT_.out HW_.out (by kernel_rfl)) (fun _ _ _ h => h) (Or.inl ⟨by rfl, ?_⟩) hHeld ?_ ?_
        rotate_left
        ·rintro w' ⟨s0, s1, s2, s3, s4, s5, s6, s7, s8⟩
         go_simp
         with_reducible rfl
        rotate_left
        ·simp only [Act.put, sA, sB, sC, i64_w, i32_w]
         rfl
        refine pure_ (i := 7) (N := some 24) (v := ?_) (a' := ?_) (ba 14 1279) rfl rfl (any_of HT_.out (by kernel_rfl)) (fun _ _ _ h => h) (Or.inl ⟨by rfl, ?_⟩) ?_ ?_
        rotate_left
        ·intro w'
         go_simp
         with_reducible rfl
        rotate_left
        ·simp only [Act.put, sA, sB, sC, i64_w, i32_w]
         rfl
        refine pure_ (i := 8) (N := some 25) (v := ?_) (a' := ?_) (ba 14 1535) rfl rfl (any_of HT_.out (by kernel_rfl)) (fun _ _ _ h => h) (Or.inl ⟨by rfl, ?_⟩) ?_ ?_
        rotate_left
        ·intro w'
         go_simp
         with_reducible rfl
        rotate_left
        ·simp only [Act.put, sA, sB, sC, i64_w, i32_w]
         rfl
        refine take_ (i := 9) (N := some 26) (v := ?_) (a' := ?_) (ba 14 2047) rfl rfl (take_ofW HT_.out HW_.out (by kernel_rfl)) (fun _ _ _ h => h) (Or.inl ⟨by rfl, ?_⟩) hHeld ?_ ?_
        rotate_left
        ·rintro w' ⟨s0, s1, s2, s3, s4, s5, s6, s7, s8⟩
         go_simp
         with_reducible rfl
        rotate_left
        ·simp only [Act.put, sA, sB, sC, i64_w, i32_w]
         rfl
        refine take_ (i := 11) (N := some 28) (v := ?_) (a' := ?_) (ba 14 4095) rfl rfl (take_ofW HT_.out HW_.out (by kernel_rfl)) (fun _ _ _ h => h) (Or.inl ⟨by rfl, ?_⟩) hHeld ?_ ?_
        rotate_left
        ·rintro w' ⟨s0, s1, s2, s3, s4, s5, s6, s7, s8⟩
         go_simp
         with_reducible rfl
        rotate_left
        ·simp only [Act.put, sA, sB, sC, i64_w, i32_w]
         rfl
        refine pure_ (i := 12) (N := some 29) (v := ?_) (a' := ?_) (ba 14 8191) rfl rfl (any_of HT_.out (by kernel_rfl)) (fun _ _ _ h => h) (Or.inl ⟨by rfl, ?_⟩) ?_ ?_
        rotate_left
        ·intro w'
         go_simp
         with_reducible rfl
        rotate_left
        ·simp only [Act.put, sA, sB, sC, i64_w, i32_w]
         rfl
        refine pure_ (i := 13) (N := some 30) (v := ?_) (a' := ?_) (ba 14 16383) rfl rfl (any_of HT_.out (by kernel_rfl)) (fun _ _ _ h => h) (Or.inl ⟨by rfl, ?_⟩) ?_ ?_
        rotate_left
        ·intro w'
         go_simp
         with_reducible rfl
        rotate_left
        ·simp only [Act.put, sA, sB, sC, i64_w, i32_w]
         rfl
        refine done_ (done_of HT_.out (by kernel_rfl)) ?_
        try go_wp2
        replace HO_525000 := aM (Kd.V_drew HO_525000.out)
        replace HO_525001 := aM (Kd.V_drew HO_525001.out)
        replace HO_525002 := aM (Kd.V_drew HO_525002.out)
        replace HO_528000 := aM (Kd.N_drew HO_528000.out)
        replace BK524 := aM (kD BK524.out)
        replace BK525 := aM (kD BK525.out)
        replace BK526 := aM (kD BK526.out)
        replace BK527 := aM (kD BK527.out)
        replace HB := aM (bD HB.out)
        clear HL528_3 HR528_3
        have p529 : 0 ≤ (x6_1 : Int) := oT
        have q529 : x6_1 < (l0_0.length : Int) := oT
        obtain ⟨ad529, A529_3, c529_3, e529, hx529_0, hx529_1, hx529_2, hx529_3, hl529_3, hi529_3⟩ := at_T39 (Kd.V_reads' HO_525000.out).2.2 x6_1 p529 q529
        obtain rfl : ad528 = ad529 := (by injection e529)
        obtain ⟨ce529, hce529, hMe529, hcc529⟩ := Kd.V_get HO_525000.out z39 x6_1 p529 (by first | exact q529 | exact of_decide_eq_true (by first | (with_reducible assumption) | assumption) | (have e_ := (Kd.V_reads' HO_525000.out).1; omega))
        obtain ⟨ua529_3, uc529_3, rfl, ul529_3, ge529_3⟩ := k39_openF hMe529
        have hv529_3 := hcc529 3 _ rfl
        rw [add_field _ _ 3 (by omega)] at hv529_3
        replace hv529_3 := Option.some.inj (hv529_3.symm.trans hx529_3)
        injection hv529_3 with hva_ hvn_ hvc_
        rw [hva_] at ge529_3
        rw [hvc_] at ul529_3
        have HL529_3 := aM (show Kd.V k70 70 _ w.heap.size _ _ ((rd_T39 l0_0 x6_1).f2) from Kd.V_mk ul529_3 ge529_3)
        clear hva_ hvn_ hvc_ ge529_3 ul529_3 hcc529 hce529
        have HR529_3 := aM hi529_3
        have HC529_3 := aM hl529_3
        clear hi529_3 hl529_3
        replace p529 := eq_true p529
        replace q529 := eq_true q529
        refine start_ (n := 11) (S := fun w' => w'.cell? ⟨gb527, 0, none⟩ = some (u528000) ∧ w'.cell? ⟨gb527, 1, none⟩ = some (.slice none 0 0) ∧ w'.cell? ⟨gb527, 2, none⟩ = some (.slice none 0 0) ∧ w'.cell? ⟨gb524, 0, none⟩ = some (.slice (some ad528) l0_0.length c0_0) ∧ w'.cell? ⟨gb524, 1, none⟩ = some (.slice A0_1 l0_1.length c0_1) ∧ w'.cell? ⟨gb524, 2, none⟩ = some (.slice A0_2 l0_2.length c0_2) ∧ w'.cell? (ad528.add ((x6_1).toNat * 4)) = some (.int .i64 ((rd_T39 l0_0 x6_1).f0)) ∧ w'.cell? ⟨(ad528.add ((x6_1).toNat * 4)).block, (ad528.add ((x6_1).toNat * 4)).off + 1, none⟩ = some (.int .i64 ((rd_T39 l0_0 x6_1).f1.f0)) ∧ w'.cell? ⟨(ad528.add ((x6_1).toNat * 4)).block, (ad528.add ((x6_1).toNat * 4)).off + 2, none⟩ = some (.int .i64 ((rd_T39 l0_0 x6_1).f1.f1)) ∧ w'.cell? ⟨(ad528.add ((x6_1).toNat * 4)).block, (ad528.add ((x6_1).toNat * 4)).off + 3, none⟩ = some (.slice A529_3 ((rd_T39 l0_0 x6_1).f2).length c529_3)) (ds := [8, 10]) #[false, false, false, false, false, false, false, false, false, false, false] (by kernel_rfl) rfl rfl ⟨(kC BK527.out 0).trans rfl, (kC BK527.out 1).trans rfl, (kC BK527.out 2).trans rfl, (kC BK524.out 0).trans rfl, (kC BK524.out 1).trans rfl, (kC BK524.out 2).trans rfl, hx529_0, hx529_1, hx529_2, hx529_3⟩ (fun hHeld => ?_); refine with_tabW mapmakerlaw14_without.tab6 mapmakerlaw14_without.bits6 (fun HT_ HW_ => ?_)
        generalize w25.drew = w26 at HO_525000 HO_525001 HO_525002 HO_528000 BK524 BK525 BK526 BK527 HB HL529_3 HR529_3 hx529_0 hx529_1 hx529_2 hx529_3 hHeld ⊢
        refine pure_ (i := 0) (N := some 31) (v := ?_) (a' := ?_) (ba 11 1) rfl rfl (any_of HT_.out (by kernel_rfl)) (fun _ _ _ h => h) (Or.inl ⟨by rfl, ?_⟩) ?_ ?_
        rotate_left
        ·intro w'
         go_simp
         with_reducible rfl
        rotate_left
        ·simp only [Act.put, sA, sB, sC, i64_w, i32_w]
         rfl
        refine pure_ (i := 2) (N := some 33) (v := ?_) (a' := ?_) (ba 11 5) rfl rfl (any_of HT_.out (by kernel_rfl)) (fun _ _ _ h => h) (Or.inl ⟨by rfl, ?_⟩) ?_ ?_
        rotate_left
        ·intro w'
         go_simp
         with_reducible rfl
        rotate_left
        ·simp only [Act.put, sA, sB, sC, i64_w, i32_w]
         rfl
        refine pure_ (i := 4) (N := some 35) (v := ?_) (a' := ?_) (ba 11 21) rfl rfl (any_of HT_.out (by kernel_rfl)) (fun _ _ _ h => h) (Or.inl ⟨by rfl, ?_⟩) ?_ ?_
        rotate_left
        ·intro w'
         go_simp
         with_reducible rfl
        rotate_left
        ·simp only [Act.put, sA, sB, sC, i64_w, i32_w]
         rfl
        refine take_ (i := 1) (N := some 32) (v := ?_) (a' := ?_) (ba 11 23) rfl rfl (take_ofW HT_.out HW_.out (by kernel_rfl)) (fun _ _ _ h => h) (Or.inl ⟨by rfl, ?_⟩) hHeld ?_ ?_
        rotate_left
        ·rintro w' ⟨s0, s1, s2, s3, s4, s5, s6, s7, s8, s9⟩
         go_simp
         with_reducible rfl
        rotate_left
        ·simp only [Act.put, sA, sB, sC, i64_w, i32_w]
         rfl
        refine take_ (i := 3) (N := some 34) (v := ?_) (a' := ?_) (ba 11 31) rfl rfl (take_ofW HT_.out HW_.out (by kernel_rfl)) (fun _ _ _ h => h) (Or.inl ⟨by rfl, ?_⟩) hHeld ?_ ?_
        rotate_left
        ·rintro w' ⟨s0, s1, s2, s3, s4, s5, s6, s7, s8, s9⟩
         go_simp
         with_reducible rfl
        rotate_left
        ·simp only [Act.put, sA, sB, sC, i64_w, i32_w]
         rfl
        refine pure_ (i := 5) (N := some 36) (v := ?_) (a' := ?_) (ba 11 63) rfl rfl (any_of HT_.out (by kernel_rfl)) (fun _ _ _ h => h) (Or.inl ⟨by rfl, ?_⟩) ?_ ?_
        rotate_left
        ·intro w'
         go_simp
         with_reducible rfl
        rotate_left
        ·simp only [Act.put, sA, sB, sC, i64_w, i32_w]
         rfl
        refine take_ (i := 6) (N := some 37) (v := ?_) (a' := ?_) (ba 11 127) rfl rfl (take_ofW HT_.out HW_.out (by kernel_rfl)) (fun _ _ _ h => h) (Or.inl ⟨by rfl, ?_⟩) hHeld ?_ ?_
        rotate_left
        ·rintro w' ⟨s0, s1, s2, s3, s4, s5, s6, s7, s8, s9⟩
         go_simp
         with_reducible rfl
        rotate_left
        ·simp only [Act.put, sA, sB, sC, i64_w, i32_w]
         rfl
        refine one_ (i := 7) (N := some 38) (ba 11 255) rfl rfl (one_of HT_.out (by kernel_rfl)) (by decide) (fun K hK => ?_)
        refine value_ (w1 := ?_) (v := ?_) (by rfl) rfl ?_ ?_
        rotate_left 2
        ·go_simp
         constructor
         ·rfl
         ·rfl
        refine hK.out _ _ ⟨(kC (kA BK527.out _) 0).trans rfl, (kC (kA BK527.out _) 1).trans rfl, (kC (kA BK527.out _) 2).trans rfl, (kC (kA BK524.out _) 0).trans rfl, (kC (kA BK524.out _) 1).trans rfl, (kC (kA BK524.out _) 2).trans rfl, (World.cell?_alloc_lt _ _ _ (World.block_lt_of_cell? _ _ (hHeld.2.2.2.2.2.2.1))).trans (hHeld.2.2.2.2.2.2.1), (World.cell?_alloc_lt _ _ _ (World.block_lt_of_cell? _ _ (hHeld.2.2.2.2.2.2.2.1))).trans (hHeld.2.2.2.2.2.2.2.1), (World.cell?_alloc_lt _ _ _ (World.block_lt_of_cell? _ _ (hHeld.2.2.2.2.2.2.2.2.1))).trans (hHeld.2.2.2.2.2.2.2.2.1), (World.cell?_alloc_lt _ _ _ (World.block_lt_of_cell? _ _ (hHeld.2.2.2.2.2.2.2.2.2))).trans (hHeld.2.2.2.2.2.2.2.2.2)⟩ (fun hHeld => ?_)
        clear hK K
        refine norm_ (a' := ?_) ?_ ?_
        rotate_left
        ·show Act.put _ (some 38) _ = _
         simp only [Act.put, sA, sB, sC, i64_w, i32_w]
         rfl
        refine last_ (i := 8) (N := some 39) (ba 11 511) rfl rfl (one_of HT_.out (by kernel_rfl)) (by decide) (fun K hK => ?_)
        refine Kd.N_append_step k39 (w0 := w) w.heap.size (by rfl) (.tmp 32) (.tmp 38) 22 39 (.agg #[(.int .i64 0), (.int .i64 0), (.int .i64 0), (.slice none 0 0)]) 48 rfl Try.underlying22 info39 rfl (by decide) (by omega) u528000 x528000_1 (⟨(rd_T39 l0_0 x6_1).f0, (⟨(rd_T39 l0_0 x6_1).f1.f0, (rd_T39 l0_0 x6_1).f1.f1⟩ : S36), (rd_T39 l0_0 x6_1).f2⟩ : S39) [.int .i64 ((rd_T39 l0_0 x6_1).f0), .int .i64 ((rd_T39 l0_0 x6_1).f1.f0), .int .i64 ((rd_T39 l0_0 x6_1).f1.f1), .slice A529_3 ((rd_T39 l0_0 x6_1).f2).length c529_3] (fun k_ => ((P0_0_ k_ ∨ P0_1_ k_ ∨ P0_2_ k_) ∨ w.heap.size ≤ k_) ∧ k_ ≠ gb524 ∧ k_ ≠ gb525 ∧ k_ ≠ gb526 ∧ k_ ≠ gb527) (fun k_ => ((fun k_ => ((P0_0_ k_ ∨ P0_1_ k_ ∨ P0_2_ k_) ∨ w.heap.size ≤ k_) ∧ k_ ≠ gb524 ∧ k_ ≠ gb525 ∧ k_ ≠ gb526 ∧ k_ ≠ gb527)) k_ ∧ some k_ ≠ (u528000 : Value).ownBlock) rfl rfl ?aP (fun _ hk => hk) ?aF ?aO ?aB ?aS ?aL ?_
        (case aP => exact (k39_mkF _ _ (⟨(rd_T39 l0_0 x6_1).f0, (⟨(rd_T39 l0_0 x6_1).f1.f0, (rd_T39 l0_0 x6_1).f1.f1⟩ : S36), (rd_T39 l0_0 x6_1).f2⟩ : S39) (Kd.V_reads' (Kd.V_mono (ok' := (fun k_ => ((fun k_ => ((P0_0_ k_ ∨ P0_1_ k_ ∨ P0_2_ k_) ∨ w.heap.size ≤ k_) ∧ k_ ≠ gb524 ∧ k_ ≠ gb525 ∧ k_ ≠ gb526 ∧ k_ ≠ gb527)) k_ ∧ some k_ ≠ (u528000 : Value).ownBlock)) (HL529_3.out) (fun k_ hk => ⟨⟨hk.1, ⟨hk.2.2.1, ⟨hk.2.2.2.1, ⟨hk.2.2.2.2.1, hk.2.2.2.2.2⟩⟩⟩⟩, hk.2.1⟩))).2.1 (Kd.V_F (Kd.V_mono (ok' := (fun k_ => ((fun k_ => ((P0_0_ k_ ∨ P0_1_ k_ ∨ P0_2_ k_) ∨ w.heap.size ≤ k_) ∧ k_ ≠ gb524 ∧ k_ ≠ gb525 ∧ k_ ≠ gb526 ∧ k_ ≠ gb527)) k_ ∧ some k_ ≠ (u528000 : Value).ownBlock)) (HL529_3.out) (fun k_ hk => ⟨⟨hk.1, ⟨hk.2.2.1, ⟨hk.2.2.2.1, ⟨hk.2.2.2.2.1, hk.2.2.2.2.2⟩⟩⟩⟩, hk.2.1⟩)))))
        (case aB => exact (bl))
        (case aF => exact (fun k_ hk => ⟨(.inr (Nat.le_trans (below_size (bl)) hk)), Kd.freshB (kl BK524) k_ hk, Kd.freshB (kl BK525) k_ hk, Kd.freshB (kl BK526) k_ hk, Kd.freshB (kl BK527) k_ hk⟩))
        (case aO => exact (by (with_reducible repeat (first | apply Kd.N_alloc | apply Kd.N_drewN | apply Kd.N_drew)); exact HO_528000.out))
        (case aS => exact (below_size (bl)))
        (case aL => have := LMc20.out; omega)
        intro v531 w27 ho hb hg hat
        rw [← Ny530.out] at ho
        have HO532 := aM (ho)
        replace HO_525000 := aM (Kd.V_afterv (ok := (fun k_ => ((P0_0_ k_ ∨ P0_1_ k_ ∨ P0_2_ k_) ∨ w.heap.size ≤ k_) ∧ k_ ≠ gb524 ∧ k_ ≠ gb525 ∧ k_ ≠ gb526 ∧ k_ ≠ gb527)) (by (with_reducible repeat (first | apply Kd.V_alloc | apply Kd.V_drewN | apply Kd.V_drew)); exact Kd.V_mono HO_525000.out (fun _ hk => ⟨⟨hk.1, ⟨hk.2.2.1, ⟨hk.2.2.2.1, ⟨hk.2.2.2.2.1, hk.2.2.2.2.2⟩⟩⟩⟩, hk.2.1⟩)) hg hat)
        replace HO_525001 := aM (Kd.V_afterv (ok := (fun k_ => ((P0_0_ k_ ∨ P0_1_ k_ ∨ P0_2_ k_) ∨ w.heap.size ≤ k_) ∧ k_ ≠ gb524 ∧ k_ ≠ gb525 ∧ k_ ≠ gb526 ∧ k_ ≠ gb527)) (by (with_reducible repeat (first | apply Kd.V_alloc | apply Kd.V_drewN | apply Kd.V_drew)); exact Kd.V_mono HO_525001.out (fun _ hk => ⟨⟨hk.1, ⟨hk.2.2.1, ⟨hk.2.2.2.1, ⟨hk.2.2.2.2.1, hk.2.2.2.2.2⟩⟩⟩⟩, hk.2.1⟩)) hg hat)
        replace HO_525002 := aM (Kd.V_afterv (ok := (fun k_ => ((P0_0_ k_ ∨ P0_1_ k_ ∨ P0_2_ k_) ∨ w.heap.size ≤ k_) ∧ k_ ≠ gb524 ∧ k_ ≠ gb525 ∧ k_ ≠ gb526 ∧ k_ ≠ gb527)) (by (with_reducible repeat (first | apply Kd.V_alloc | apply Kd.V_drewN | apply Kd.V_drew)); exact Kd.V_mono HO_525002.out (fun _ hk => ⟨⟨hk.1, ⟨hk.2.2.1, ⟨hk.2.2.2.1, ⟨hk.2.2.2.2.1, hk.2.2.2.2.2⟩⟩⟩⟩, hk.2.1⟩)) hg hat)
        replace BK524 := aM (blk_grown (kl BK524) hg (Kd.N_ne HO_528000.out BK524.out (by decide)))
        replace BK525 := aM (blk_grown (kl BK525) hg (Kd.N_ne HO_528000.out BK525.out (by decide)))
        replace BK526 := aM (blk_grown (kl BK526) hg (Kd.N_ne HO_528000.out BK526.out (by decide)))
        replace BK527 := aM (blk_grown (kl BK527) hg (Kd.N_ne HO_528000.out BK527.out (by decide)))
        replace HB := aM (hb)
        clear HL529_3 HO_528000 ho hb hg hat
        obtain ⟨Ao28, co28, eo28⟩ := Kd.N_slice HO532.out
        (first | subst eo28 | (injection eo28 with f1_ f2_ f3_; have f4_ := f1_.symm; have f5_ := f3_.symm; clear f1_ f2_ f3_; subst f4_; subst f5_))
        refine hK.out _ _ ?_
        clear hK K
        refine norm_ (a' := ?_) ?_ ?_
        rotate_left
        ·show Act.put _ (some 39) _ = _
         simp only [Act.put, sA, sB, sC, i64_w, i32_w]
         rfl
        refine pure_ (i := 9) (N := some 40) (v := ?_) (a' := ?_) (ba 11 1023) rfl rfl (any_of HT_.out (by kernel_rfl)) (fun _ _ _ h => h) (Or.inl ⟨by rfl, ?_⟩) ?_ ?_
        rotate_left
        ·intro w'
         go_simp
         with_reducible rfl
        rotate_left
        ·simp only [Act.put, sA, sB, sC, i64_w, i32_w]
         rfl
        refine last_ (i := 10) (N := none) (ba 11 2047) rfl rfl (one_of HT_.out (by kernel_rfl)) (by decide) (fun K hK => ?_)
        have hs29 : w27.cell? ⟨gb527, 0, none⟩ = some (u528000) := (kC BK527.out 0).trans rfl
        have hfs29 := kF BK527.out 0
        have hns29_0 := NB524_527.out
        have hns29_1 := NB525_527.out
        have hns29_2 := NB526_527.out
        have hms29_0 := NB527_524.out
        have hms29_1 := NB527_525.out
        have hms29_2 := NB527_526.out
        refine skip_ (w1 := ?_) (by rfl) rfl ?_ ?_
        rotate_left
        ·go_simp
         rfl
        refine hK.out _ _ ?_
        clear hK K
        refine done_ (done_of HT_.out (by kernel_rfl)) ?_
        try go_wp2
        go_roundg k1
        case measure => have := HK1.out; omega
        case rel => exact ⟨(wrap64 (x6_1 + 1)), (y530), (.slice Ao28 y530.length co28), (by first | rfl | (simp; done) | (simp [*]; done)), H', ⟨by have := HK1.out; omega⟩, ⟨by (with_reducible repeat (first | apply Kd.V_alloc | apply Kd.V_drewN | apply Kd.V_drew)); exact Kd.V_mono (Kd.V_far (p := ⟨gb527, 0, none⟩) (Kd.V_mono HO_525000.out (fun k_ hk => (⟨hk, hk.1.2.2.2.2⟩ : _ ∧ k_ ≠ gb527))) (fun _ hk => hk.2) (.slice Ao28 y530.length co28)) (fun _ hk => ⟨hk.1.1.1, ⟨hk.1.2, ⟨hk.1.1.2.1, ⟨hk.1.1.2.2.1, ⟨hk.1.1.2.2.2.1, hk.1.1.2.2.2.2⟩⟩⟩⟩⟩)⟩, ⟨by (with_reducible repeat (first | apply Kd.V_alloc | apply Kd.V_drewN | apply Kd.V_drew)); exact Kd.V_mono (Kd.V_far (p := ⟨gb527, 0, none⟩) (Kd.V_mono HO_525001.out (fun k_ hk => (⟨hk, hk.1.2.2.2.2⟩ : _ ∧ k_ ≠ gb527))) (fun _ hk => hk.2) (.slice Ao28 y530.length co28)) (fun _ hk => ⟨hk.1.1.1, ⟨hk.1.2, ⟨hk.1.1.2.1, ⟨hk.1.1.2.2.1, ⟨hk.1.1.2.2.2.1, hk.1.1.2.2.2.2⟩⟩⟩⟩⟩)⟩, ⟨by (with_reducible repeat (first | apply Kd.V_alloc | apply Kd.V_drewN | apply Kd.V_drew)); exact Kd.V_mono (Kd.V_far (p := ⟨gb527, 0, none⟩) (Kd.V_mono HO_525002.out (fun k_ hk => (⟨hk, hk.1.2.2.2.2⟩ : _ ∧ k_ ≠ gb527))) (fun _ hk => hk.2) (.slice Ao28 y530.length co28)) (fun _ hk => ⟨hk.1.1.1, ⟨hk.1.2, ⟨hk.1.1.2.1, ⟨hk.1.1.2.2.1, ⟨hk.1.1.2.2.2.1, hk.1.1.2.2.2.2⟩⟩⟩⟩⟩)⟩, ⟨by (with_reducible repeat (first | apply Kd.N_alloc | apply Kd.N_drewN | apply Kd.N_drew)); exact Kd.N_mono (Kd.N_far (p := ⟨gb527, 0, none⟩) (Kd.N_mono HO532.out (fun k_ hk => (⟨hk, hk.2.2.2.2⟩ : _ ∧ k_ ≠ gb527))) (fun _ hk => hk.2) (.slice Ao28 y530.length co28)) (fun _ hk => ⟨hk.1.1, ⟨hk.1.2.1, ⟨hk.1.2.2.1, ⟨hk.1.2.2.2.1, hk.1.2.2.2.2⟩⟩⟩⟩)⟩, ⟨by (with_reducible repeat (first | refine kN ?_ _ | refine kD ?_ | refine kA ?_ _)); refine blk_far ?_ NB524_527.out _; (with_reducible repeat (first | refine kN ?_ _ | refine kD ?_ | refine kA ?_ _)); exact BK524.out⟩, ⟨by (with_reducible repeat (first | refine kN ?_ _ | refine kD ?_ | refine kA ?_ _)); refine blk_far ?_ NB525_527.out _; (with_reducible repeat (first | refine kN ?_ _ | refine kD ?_ | refine kA ?_ _)); exact BK525.out⟩, ⟨by (with_reducible repeat (first | refine kN ?_ _ | refine kD ?_ | refine kA ?_ _)); refine blk_far ?_ NB526_527.out _; (with_reducible repeat (first | refine kN ?_ _ | refine kD ?_ | refine kA ?_ _)); exact BK526.out⟩, ⟨by (with_reducible repeat (first | refine kN ?_ _ | refine kD ?_ | refine kA ?_ _)); refine kP (cs := #[u528000, .slice none 0 0, .slice none 0 0]) ?_ 0 _ rfl; (with_reducible repeat (first | refine kN ?_ _ | refine kD ?_ | refine kA ?_ _)); exact BK527.out⟩, ⟨bl⟩⟩
       ·rw [if_neg c20] at H
        exact absurd H (by simp)
     ·rw [if_neg c13] at H
      exact absurd H (by simp)
    ·rw [if_neg c12] at H
     have c12b0 : (a1_0 == 1) = false := beq_eq_false_iff_ne.mpr c12
     have c12b1 : (a1_0 != 1) = true := bne_iff_ne.mpr c12
     by_cases c30 : 0 ≤ x6_1
     ·rw [if_pos c30] at H
      have c30b0 : decide (0 ≤ x6_1) = true := decide_eq_true c30
      clear c30
      by_cases c31 : x528000_1.length < 2932031007402
      ·rw [if_pos c31] at H
       have LMc31 := aM c31
       clear c31
       obtain ⟨y534, hy534⟩ : ∃ y_ : List (S39), y_ = (x528000_1 ++ [(⟨(rd_T39 l0_0 x6_1).f0, (⟨(rd_T39 l0_0 x6_1).f1.f0, (rd_T39 l0_0 x6_1).f1.f1⟩ : S36), (rd_T39 l0_0 x6_1).f2⟩ : S39)]) := ⟨_, rfl⟩
       replace H : (mapmakerlaw14_without.l0 k1 (wrap64 (x6_1 + 1)) l0_0 l0_1 l0_2 a1_0 a1_1 y534) = some (r1, r2, r3) := by first | (rw [hy534]; with_reducible exact H) | (have H2_ := (Option.bind_some _ _).symm.trans H; rw [hy534]; with_reducible exact H2_) | (have H2_ := (Option.bind_some _ _).symm.trans H; with_reducible exact H2_) | with_reducible exact H | (rw [hy534]; exact H) | exact H
       have Ny534 := aM hy534
       clear hy534
       have H' := aM H
       clear H
       have hnb32 := NB524_525.out
       have hnc32 := NB525_524.out
       have hnb33 := NB524_526.out
       have hnc33 := NB526_524.out
       have hnb34 := NB524_527.out
       have hnc34 := NB527_524.out
       obtain ⟨hcz35_0, hcz35_1, hcz35_2, hfz35_0, hfz35_1, hfz35_2⟩ := bc3 BK524
       try go_wp2
       replace HO_525000 := aM (Kd.V_drew HO_525000.out)
       replace HO_525001 := aM (Kd.V_drew HO_525001.out)
       replace HO_525002 := aM (Kd.V_drew HO_525002.out)
       replace HO_528000 := aM (Kd.N_drew HO_528000.out)
       replace BK524 := aM (kD BK524.out)
       replace BK525 := aM (kD BK525.out)
       replace BK526 := aM (kD BK526.out)
       replace BK527 := aM (kD BK527.out)
       replace HB := aM (bD HB.out)
       refine start_ (n := 14) (S := fun w' => w'.cell? ⟨gb525, 0, none⟩ = some (.int .i64 a1_0) ∧ w'.cell? ⟨gb525, 1, none⟩ = some (.int .i64 a1_1)) (ds := []) #[false, false, false, false, false, false, false, false, false, false, false, false, false, false] (by kernel_rfl) rfl rfl ⟨(kC BK525.out 0).trans rfl, (kC BK525.out 1).trans rfl⟩ (fun hHeld => ?_); refine with_tabW mapmakerlaw14_without.tab5 mapmakerlaw14_without.bits5 (fun HT_ HW_ => ?_)
       generalize wr.drew = w36 at HO_525000 HO_525001 HO_525002 HO_528000 BK524 BK525 BK526 BK527 HB hHeld ⊢
       refine pure_ (i := 0) (N := some 17) (v := ?_) (a' := ?_) (ba 14 1) rfl rfl (any_of HT_.out (by kernel_rfl)) (fun _ _ _ h => h) (Or.inl ⟨by rfl, ?_⟩) ?_ ?_
       rotate_left
       ·intro w'
        go_simp
        with_reducible rfl
       rotate_left
       ·simp only [Act.put, sA, sB, sC, i64_w, i32_w]
        rfl
       refine take_ (i := 1) (N := some 18) (v := ?_) (a' := ?_) (ba 14 3) rfl rfl (take_ofW HT_.out HW_.out (by kernel_rfl)) (fun _ _ _ h => h) (Or.inl ⟨by rfl, ?_⟩) hHeld ?_ ?_
       rotate_left
       ·rintro w' ⟨s0, s1⟩
        go_simp
        with_reducible rfl
       rotate_left
       ·simp only [Act.put, sA, sB, sC, i64_w, i32_w]
        rfl
       refine pure_ (i := 2) (N := some 19) (v := ?_) (a' := ?_) (ba 14 7) rfl rfl (any_of HT_.out (by kernel_rfl)) (fun _ _ _ h => h) (Or.inl ⟨by rfl, ?_⟩) ?_ ?_
       rotate_left
       ·intro w'
        go_simp
        with_reducible rfl
       rotate_left
       ·simp only [Act.put, sA, sB, sC, i64_w, i32_w]
        rfl
       refine pure_ (i := 3) (N := some 20) (v := ?_) (a' := ?_) (ba 14 15) rfl rfl (any_of HT_.out (by kernel_rfl)) (fun _ _ _ h => h) (Or.inl ⟨by rfl, ?_⟩) ?_ ?_
       rotate_left
       ·intro w'
        go_simp
        with_reducible rfl
       rotate_left
       ·simp only [Act.put, sA, sB, sC, i64_w, i32_w]
        rfl
       refine pure_ (i := 4) (N := some 21) (v := undef) (a' := ?_) (ba 14 31) rfl rfl (any_of HT_.out (by kernel_rfl)) (fun _ _ _ h => h) (Or.inr ⟨by rfl, rfl⟩) ?_ ?_
       rotate_left
       ·simp only [Act.put, sA, sB, sC, i64_w, i32_w]
        rfl
       refine pure_ (i := 5) (N := some 22) (v := undef) (a' := ?_) (ba 14 63) rfl rfl (any_of HT_.out (by kernel_rfl)) (fun _ _ _ h => h) (Or.inr ⟨by rfl, rfl⟩) ?_ ?_
       rotate_left
       ·simp only [Act.put, sA, sB, sC, i64_w, i32_w]
        rfl
       refine pure_ (i := 6) (N := some 23) (v := undef) (a' := ?_) (ba 14 127) rfl rfl (any_of HT_.out (by kernel_rfl)) (fun _ _ _ h => h) (Or.inr ⟨by rfl, rfl⟩) ?_ ?_
       rotate_left
       ·simp only [Act.put, sA, sB, sC, i64_w, i32_w]
        rfl
       refine pure_ (i := 7) (N := some 24) (v := undef) (a' := ?_) (ba 14 255) rfl rfl (any_of HT_.out (by kernel_rfl)) (fun _ _ _ h => h) (Or.inr ⟨by rfl, rfl⟩) ?_ ?_
       rotate_left
       ·simp only [Act.put, sA, sB, sC, i64_w, i32_w]
        rfl
       refine pure_ (i := 8) (N := some 25) (v := undef) (a' := ?_) (ba 14 511) rfl rfl (any_of HT_.out (by kernel_rfl)) (fun _ _ _ h => h) (Or.inr ⟨by rfl, rfl⟩) ?_ ?_
       rotate_left
       ·simp only [Act.put, sA, sB, sC, i64_w, i32_w]
        rfl
       refine pure_ (i := 9) (N := some 26) (v := undef) (a' := ?_) (ba 14 1023) rfl rfl (any_of HT_.out (by kernel_rfl)) (fun _ _ _ h => h) (Or.inr ⟨by rfl, rfl⟩) ?_ ?_
       rotate_left
       ·simp only [Act.put, sA, sB, sC, i64_w, i32_w]
        rfl
       refine pure_ (i := 10) (N := some 27) (v := undef) (a' := ?_) (ba 14 2047) rfl rfl (any_of HT_.out (by kernel_rfl)) (fun _ _ _ h => h) (Or.inr ⟨by rfl, rfl⟩) ?_ ?_
       rotate_left
       ·simp only [Act.put, sA, sB, sC, i64_w, i32_w]
        rfl
       refine pure_ (i := 11) (N := some 28) (v := undef) (a' := ?_) (ba 14 4095) rfl rfl (any_of HT_.out (by kernel_rfl)) (fun _ _ _ h => h) (Or.inr ⟨by rfl, rfl⟩) ?_ ?_
       rotate_left
       ·simp only [Act.put, sA, sB, sC, i64_w, i32_w]
        rfl
       refine pure_ (i := 12) (N := some 29) (v := undef) (a' := ?_) (ba 14 8191) rfl rfl (any_of HT_.out (by kernel_rfl)) (fun _ _ _ h => h) (Or.inr ⟨by rfl, rfl⟩) ?_ ?_
       rotate_left
       ·simp only [Act.put, sA, sB, sC, i64_w, i32_w]
        rfl
       refine pure_ (i := 13) (N := some 30) (v := ?_) (a' := ?_) (ba 14 16383) rfl rfl (any_of HT_.out (by kernel_rfl)) (fun _ _ _ h => h) (Or.inl ⟨by rfl, ?_⟩) ?_ ?_
       rotate_left
       ·intro w'
        go_simp
        with_reducible rfl
       rotate_left
       ·simp only [Act.put, sA, sB, sC, i64_w, i32_w]
        rfl
       refine done_ (done_of HT_.out (by kernel_rfl)) ?_
       try go_wp2
       replace HO_525000 := aM (Kd.V_drew HO_525000.out)
       replace HO_525001 := aM (Kd.V_drew HO_525001.out)
       replace HO_525002 := aM (Kd.V_drew HO_525002.out)
       replace HO_528000 := aM (Kd.N_drew HO_528000.out)
       replace BK524 := aM (kD BK524.out)
       replace BK525 := aM (kD BK525.out)
       replace BK526 := aM (kD BK526.out)
       replace BK527 := aM (kD BK527.out)
       replace HB := aM (bD HB.out)
       have p533 : 0 ≤ (x6_1 : Int) := oT
       have q533 : x6_1 < (l0_0.length : Int) := oT
       obtain ⟨ad533, A533_3, c533_3, e533, hx533_0, hx533_1, hx533_2, hx533_3, hl533_3, hi533_3⟩ := at_T39 (Kd.V_reads' HO_525000.out).2.2 x6_1 p533 q533
       cases e533
       obtain ⟨ce533, hce533, hMe533, hcc533⟩ := Kd.V_get HO_525000.out z39 x6_1 p533 (by first | exact q533 | exact of_decide_eq_true (by first | (with_reducible assumption) | assumption) | (have e_ := (Kd.V_reads' HO_525000.out).1; omega))
       obtain ⟨ua533_3, uc533_3, rfl, ul533_3, ge533_3⟩ := k39_openF hMe533
       have hv533_3 := hcc533 3 _ rfl
       rw [add_field _ _ 3 (by omega)] at hv533_3
       replace hv533_3 := Option.some.inj (hv533_3.symm.trans hx533_3)
       injection hv533_3 with hva_ hvn_ hvc_
       rw [hva_] at ge533_3
       rw [hvc_] at ul533_3
       have HL533_3 := aM (show Kd.V k70 70 _ w.heap.size _ _ ((rd_T39 l0_0 x6_1).f2) from Kd.V_mk ul533_3 ge533_3)
       clear hva_ hvn_ hvc_ ge533_3 ul533_3 hcc533 hce533
       have HR533_3 := aM hi533_3
       have HC533_3 := aM hl533_3
       clear hi533_3 hl533_3
       replace p533 := eq_true p533
       replace q533 := eq_true q533
       refine start_ (n := 11) (S := fun w' => w'.cell? ⟨gb527, 0, none⟩ = some (u528000) ∧ w'.cell? ⟨gb527, 1, none⟩ = some (.slice none 0 0) ∧ w'.cell? ⟨gb527, 2, none⟩ = some (.slice none 0 0) ∧ w'.cell? ⟨gb524, 0, none⟩ = some (.slice (some ad533) l0_0.length c0_0) ∧ w'.cell? ⟨gb524, 1, none⟩ = some (.slice A0_1 l0_1.length c0_1) ∧ w'.cell? ⟨gb524, 2, none⟩ = some (.slice A0_2 l0_2.length c0_2) ∧ w'.cell? (ad533.add ((x6_1).toNat * 4)) = some (.int .i64 ((rd_T39 l0_0 x6_1).f0)) ∧ w'.cell? ⟨(ad533.add ((x6_1).toNat * 4)).block, (ad533.add ((x6_1).toNat * 4)).off + 1, none⟩ = some (.int .i64 ((rd_T39 l0_0 x6_1).f1.f0)) ∧ w'.cell? ⟨(ad533.add ((x6_1).toNat * 4)).block, (ad533.add ((x6_1).toNat * 4)).off + 2, none⟩ = some (.int .i64 ((rd_T39 l0_0 x6_1).f1.f1)) ∧ w'.cell? ⟨(ad533.add ((x6_1).toNat * 4)).block, (ad533.add ((x6_1).toNat * 4)).off + 3, none⟩ = some (.slice A533_3 ((rd_T39 l0_0 x6_1).f2).length c533_3)) (ds := [8, 10]) #[false, false, false, false, false, false, false, false, false, false, false] (by kernel_rfl) rfl rfl ⟨(kC BK527.out 0).trans rfl, (kC BK527.out 1).trans rfl, (kC BK527.out 2).trans rfl, (kC BK524.out 0).trans rfl, (kC BK524.out 1).trans rfl, (kC BK524.out 2).trans rfl, hx533_0, hx533_1, hx533_2, hx533_3⟩ (fun hHeld => ?_); refine with_tabW mapmakerlaw14_without.tab6 mapmakerlaw14_without.bits6 (fun HT_ HW_ => ?_)
       generalize w36.drew = w37 at HO_525000 HO_525001 HO_525002 HO_528000 BK524 BK525 BK526 BK527 HB HL533_3 HR533_3 hx533_0 hx533_1 hx533_2 hx533_3 hHeld ⊢
       refine pure_ (i := 0) (N := some 31) (v := ?_) (a' := ?_) (ba 11 1) rfl rfl (any_of HT_.out (by kernel_rfl)) (fun _ _ _ h => h) (Or.inl ⟨by rfl, ?_⟩) ?_ ?_
       rotate_left
       ·intro w'
        go_simp
        with_reducible rfl
       rotate_left
       ·simp only [Act.put, sA, sB, sC, i64_w, i32_w]
        rfl
       refine pure_ (i := 2) (N := some 33) (v := ?_) (a' := ?_) (ba 11 5) rfl rfl (any_of HT_.out (by kernel_rfl)) (fun _ _ _ h => h) (Or.inl ⟨by rfl, ?_⟩) ?_ ?_
       rotate_left
       ·intro w'
        go_simp
        with_reducible rfl
       rotate_left
       ·simp only [Act.put, sA, sB, sC, i64_w, i32_w]
        rfl
       refine pure_ (i := 4) (N := some 35) (v := ?_) (a' := ?_) (ba 11 21) rfl rfl (any_of HT_.out (by kernel_rfl)) (fun _ _ _ h => h) (Or.inl ⟨by rfl, ?_⟩) ?_ ?_
       rotate_left
       ·intro w'
        go_simp
        with_reducible rfl
       rotate_left
       ·simp only [Act.put, sA, sB, sC, i64_w, i32_w]
        rfl
       refine take_ (i := 1) (N := some 32) (v := ?_) (a' := ?_) (ba 11 23) rfl rfl (take_ofW HT_.out HW_.out (by kernel_rfl)) (fun _ _ _ h => h) (Or.inl ⟨by rfl, ?_⟩) hHeld ?_ ?_
       rotate_left
       ·rintro w' ⟨s0, s1, s2, s3, s4, s5, s6, s7, s8, s9⟩
        go_simp
        with_reducible rfl
       rotate_left
       ·simp only [Act.put, sA, sB, sC, i64_w, i32_w]
        rfl
       refine take_ (i := 3) (N := some 34) (v := ?_) (a' := ?_) (ba 11 31) rfl rfl (take_ofW HT_.out HW_.out (by kernel_rfl)) (fun _ _ _ h => h) (Or.inl ⟨by rfl, ?_⟩) hHeld ?_ ?_
       rotate_left
       ·rintro w' ⟨s0, s1, s2, s3, s4, s5, s6, s7, s8, s9⟩
        go_simp
        with_reducible rfl
       rotate_left
       ·simp only [Act.put, sA, sB, sC, i64_w, i32_w]
        rfl
       refine pure_ (i := 5) (N := some 36) (v := ?_) (a' := ?_) (ba 11 63) rfl rfl (any_of HT_.out (by kernel_rfl)) (fun _ _ _ h => h) (Or.inl ⟨by rfl, ?_⟩) ?_ ?_
       rotate_left
       ·intro w'
        go_simp
        with_reducible rfl
       rotate_left
       ·simp only [Act.put, sA, sB, sC, i64_w, i32_w]
        rfl
       refine take_ (i := 6) (N := some 37) (v := ?_) (a' := ?_) (ba 11 127) rfl rfl (take_ofW HT_.out HW_.out (by kernel_rfl)) (fun _ _ _ h => h) (Or.inl ⟨by rfl, ?_⟩) hHeld ?_ ?_
       rotate_left
       ·rintro w' ⟨s0, s1, s2, s3, s4, s5, s6, s7, s8, s9⟩
        go_simp
        with_reducible rfl
       rotate_left
       ·simp only [Act.put, sA, sB, sC, i64_w, i32_w]
        rfl
       refine one_ (i := 7) (N := some 38) (ba 11 255) rfl rfl (one_of HT_.out (by kernel_rfl)) (by decide) (fun K hK => ?_)
       refine value_ (w1 := ?_) (v := ?_) (by rfl) rfl ?_ ?_
       rotate_left 2
       ·go_simp
        constructor
        ·rfl
        ·rfl
       refine hK.out _ _ ⟨(kC (kA BK527.out _) 0).trans rfl, (kC (kA BK527.out _) 1).trans rfl, (kC (kA BK527.out _) 2).trans rfl, (kC (kA BK524.out _) 0).trans rfl, (kC (kA BK524.out _) 1).trans rfl, (kC (kA BK524.out _) 2).trans rfl, (World.cell?_alloc_lt _ _ _ (World.block_lt_of_cell? _ _ (hHeld.2.2.2.2.2.2.1))).trans (hHeld.2.2.2.2.2.2.1), (World.cell?_alloc_lt _ _ _ (World.block_lt_of_cell? _ _ (hHeld.2.2.2.2.2.2.2.1))).trans (hHeld.2.2.2.2.2.2.2.1), (World.cell?_alloc_lt _ _ _ (World.block_lt_of_cell? _ _ (hHeld.2.2.2.2.2.2.2.2.1))).trans (hHeld.2.2.2.2.2.2.2.2.1), (World.cell?_alloc_lt _ _ _ (World.block_lt_of_cell? _ _ (hHeld.2.2.2.2.2.2.2.2.2))).trans (hHeld.2.2.2.2.2.2.2.2.2)⟩ (fun hHeld => ?_)
       clear hK K
       refine norm_ (a' := ?_) ?_ ?_
       rotate_left
       ·show Act.put _ (some 38) _ = _
        simp only [Act.put, sA, sB, sC, i64_w, i32_w]
        rfl
       refine last_ (i := 8) (N := some 39) (ba 11 511) rfl rfl (one_of HT_.out (by kernel_rfl)) (by decide) (fun K hK => ?_)
       refine Kd.N_append_step k39 (w0 := w) w.heap.size (by rfl) (.tmp 32) (.tmp 38) 22 39 (.agg #[(.int .i64 0), (.int .i64 0), (.int .i64 0), (.slice none 0 0)]) 48 rfl Try.underlying22 info39 rfl (by decide) (by omega) u528000 x528000_1 (⟨(rd_T39 l0_0 x6_1).f0, (⟨(rd_T39 l0_0 x6_1).f1.f0, (rd_T39 l0_0 x6_1).f1.f1⟩ : S36), (rd_T39 l0_0 x6_1).f2⟩ : S39) [.int .i64 ((rd_T39 l0_0 x6_1).f0), .int .i64 ((rd_T39 l0_0 x6_1).f1.f0), .int .i64 ((rd_T39 l0_0 x6_1).f1.f1), .slice A533_3 ((rd_T39 l0_0 x6_1).f2).length c533_3] (fun k_ => ((P0_0_ k_ ∨ P0_1_ k_ ∨ P0_2_ k_) ∨ w.heap.size ≤ k_) ∧ k_ ≠ gb524 ∧ k_ ≠ gb525 ∧ k_ ≠ gb526 ∧ k_ ≠ gb527) (fun k_ => ((fun k_ => ((P0_0_ k_ ∨ P0_1_ k_ ∨ P0_2_ k_) ∨ w.heap.size ≤ k_) ∧ k_ ≠ gb524 ∧ k_ ≠ gb525 ∧ k_ ≠ gb526 ∧ k_ ≠ gb527)) k_ ∧ some k_ ≠ (u528000 : Value).ownBlock) rfl rfl ?aP (fun _ hk => hk) ?aF ?aO ?aB ?aS ?aL ?_
       (case aP => exact (k39_mkF _ _ (⟨(rd_T39 l0_0 x6_1).f0, (⟨(rd_T39 l0_0 x6_1).f1.f0, (rd_T39 l0_0 x6_1).f1.f1⟩ : S36), (rd_T39 l0_0 x6_1).f2⟩ : S39) (Kd.V_reads' (Kd.V_mono (ok' := (fun k_ => ((fun k_ => ((P0_0_ k_ ∨ P0_1_ k_ ∨ P0_2_ k_) ∨ w.heap.size ≤ k_) ∧ k_ ≠ gb524 ∧ k_ ≠ gb525 ∧ k_ ≠ gb526 ∧ k_ ≠ gb527)) k_ ∧ some k_ ≠ (u528000 : Value).ownBlock)) (HL533_3.out) (fun k_ hk => ⟨⟨hk.1, ⟨hk.2.2.1, ⟨hk.2.2.2.1, ⟨hk.2.2.2.2.1, hk.2.2.2.2.2⟩⟩⟩⟩, hk.2.1⟩))).2.1 (Kd.V_F (Kd.V_mono (ok' := (fun k_ => ((fun k_ => ((P0_0_ k_ ∨ P0_1_ k_ ∨ P0_2_ k_) ∨ w.heap.size ≤ k_) ∧ k_ ≠ gb524 ∧ k_ ≠ gb525 ∧ k_ ≠ gb526 ∧ k_ ≠ gb527)) k_ ∧ some k_ ≠ (u528000 : Value).ownBlock)) (HL533_3.out) (fun k_ hk => ⟨⟨hk.1, ⟨hk.2.2.1, ⟨hk.2.2.2.1, ⟨hk.2.2.2.2.1, hk.2.2.2.2.2⟩⟩⟩⟩, hk.2.1⟩)))))
       (case aB => exact (bl))
       (case aF => exact (fun k_ hk => ⟨(.inr (Nat.le_trans (below_size (bl)) hk)), Kd.freshB (kl BK524) k_ hk, Kd.freshB (kl BK525) k_ hk, Kd.freshB (kl BK526) k_ hk, Kd.freshB (kl BK527) k_ hk⟩))
       (case aO => exact (by (with_reducible repeat (first | apply Kd.N_alloc | apply Kd.N_drewN | apply Kd.N_drew)); exact HO_528000.out))
       (case aS => exact (below_size (bl)))
       (case aL => have := LMc31.out; omega)
       intro v535 w38 ho hb hg hat
       rw [← Ny534.out] at ho
       have HO536 := aM (ho)
       replace HO_525000 := aM (Kd.V_afterv (ok := (fun k_ => ((P0_0_ k_ ∨ P0_1_ k_ ∨ P0_2_ k_) ∨ w.heap.size ≤ k_) ∧ k_ ≠ gb524 ∧ k_ ≠ gb525 ∧ k_ ≠ gb526 ∧ k_ ≠ gb527)) (by (with_reducible repeat (first | apply Kd.V_alloc | apply Kd.V_drewN | apply Kd.V_drew)); exact Kd.V_mono HO_525000.out (fun _ hk => ⟨⟨hk.1, ⟨hk.2.2.1, ⟨hk.2.2.2.1, ⟨hk.2.2.2.2.1, hk.2.2.2.2.2⟩⟩⟩⟩, hk.2.1⟩)) hg hat)
       replace HO_525001 := aM (Kd.V_afterv (ok := (fun k_ => ((P0_0_ k_ ∨ P0_1_ k_ ∨ P0_2_ k_) ∨ w.heap.size ≤ k_) ∧ k_ ≠ gb524 ∧ k_ ≠ gb525 ∧ k_ ≠ gb526 ∧ k_ ≠ gb527)) (by (with_reducible repeat (first | apply Kd.V_alloc | apply Kd.V_drewN | apply Kd.V_drew)); exact Kd.V_mono HO_525001.out (fun _ hk => ⟨⟨hk.1, ⟨hk.2.2.1, ⟨hk.2.2.2.1, ⟨hk.2.2.2.2.1, hk.2.2.2.2.2⟩⟩⟩⟩, hk.2.1⟩)) hg hat)
       replace HO_525002 := aM (Kd.V_afterv (ok := (fun k_ => ((P0_0_ k_ ∨ P0_1_ k_ ∨ P0_2_ k_) ∨ w.heap.size ≤ k_) ∧ k_ ≠ gb524 ∧ k_ ≠ gb525 ∧ k_ ≠ gb526 ∧ k_ ≠ gb527)) (by (with_reducible repeat (first | apply Kd.V_alloc | apply Kd.V_drewN | apply Kd.V_drew)); exact Kd.V_mono HO_525002.out (fun _ hk => ⟨⟨hk.1, ⟨hk.2.2.1, ⟨hk.2.2.2.1, ⟨hk.2.2.2.2.1, hk.2.2.2.2.2⟩⟩⟩⟩, hk.2.1⟩)) hg hat)
       replace BK524 := aM (blk_grown (kl BK524) hg (Kd.N_ne HO_528000.out BK524.out (by decide)))
       replace BK525 := aM (blk_grown (kl BK525) hg (Kd.N_ne HO_528000.out BK525.out (by decide)))
       replace BK526 := aM (blk_grown (kl BK526) hg (Kd.N_ne HO_528000.out BK526.out (by decide)))
       replace BK527 := aM (blk_grown (kl BK527) hg (Kd.N_ne HO_528000.out BK527.out (by decide)))
       replace HB := aM (hb)
       clear HL533_3 HO_528000 ho hb hg hat
       obtain ⟨Ao39, co39, eo39⟩ := Kd.N_slice HO536.out
       (first | subst eo39 | (injection eo39 with f1_ f2_ f3_; have f4_ := f1_.symm; have f5_ := f3_.symm; clear f1_ f2_ f3_; subst f4_; subst f5_))
       refine hK.out _ _ ?_
       clear hK K
       refine norm_ (a' := ?_) ?_ ?_
       rotate_left
       ·show Act.put _ (some 39) _ = _
        simp only [Act.put, sA, sB, sC, i64_w, i32_w]
        rfl
       refine pure_ (i := 9) (N := some 40) (v := ?_) (a' := ?_) (ba 11 1023) rfl rfl (any_of HT_.out (by kernel_rfl)) (fun _ _ _ h => h) (Or.inl ⟨by rfl, ?_⟩) ?_ ?_
       rotate_left
       ·intro w'
        go_simp
        with_reducible rfl
       rotate_left
       ·simp only [Act.put, sA, sB, sC, i64_w, i32_w]
        rfl
       refine last_ (i := 10) (N := none) (ba 11 2047) rfl rfl (one_of HT_.out (by kernel_rfl)) (by decide) (fun K hK => ?_)
       have hs40 : w38.cell? ⟨gb527, 0, none⟩ = some (u528000) := (kC BK527.out 0).trans rfl
       have hfs40 := kF BK527.out 0
       have hns40_0 := NB524_527.out
       have hns40_1 := NB525_527.out
       have hns40_2 := NB526_527.out
       have hms40_0 := NB527_524.out
       have hms40_1 := NB527_525.out
       have hms40_2 := NB527_526.out
       refine skip_ (w1 := ?_) (by rfl) rfl ?_ ?_
       rotate_left
       ·go_simp
        rfl
       refine hK.out _ _ ?_
       clear hK K
       refine done_ (done_of HT_.out (by kernel_rfl)) ?_
       try go_wp2
       go_roundg k1
       case measure => have := HK1.out; omega
       case rel => exact ⟨(wrap64 (x6_1 + 1)), (y534), (.slice Ao39 y534.length co39), (by first | rfl | (simp; done) | (simp [*]; done)), H', ⟨by have := HK1.out; omega⟩, ⟨by (with_reducible repeat (first | apply Kd.V_alloc | apply Kd.V_drewN | apply Kd.V_drew)); exact Kd.V_mono (Kd.V_far (p := ⟨gb527, 0, none⟩) (Kd.V_mono HO_525000.out (fun k_ hk => (⟨hk, hk.1.2.2.2.2⟩ : _ ∧ k_ ≠ gb527))) (fun _ hk => hk.2) (.slice Ao39 y534.length co39)) (fun _ hk => ⟨hk.1.1.1, ⟨hk.1.2, ⟨hk.1.1.2.1, ⟨hk.1.1.2.2.1, ⟨hk.1.1.2.2.2.1, hk.1.1.2.2.2.2⟩⟩⟩⟩⟩)⟩, ⟨by (with_reducible repeat (first | apply Kd.V_alloc | apply Kd.V_drewN | apply Kd.V_drew)); exact Kd.V_mono (Kd.V_far (p := ⟨gb527, 0, none⟩) (Kd.V_mono HO_525001.out (fun k_ hk => (⟨hk, hk.1.2.2.2.2⟩ : _ ∧ k_ ≠ gb527))) (fun _ hk => hk.2) (.slice Ao39 y534.length co39)) (fun _ hk => ⟨hk.1.1.1, ⟨hk.1.2, ⟨hk.1.1.2.1, ⟨hk.1.1.2.2.1, ⟨hk.1.1.2.2.2.1, hk.1.1.2.2.2.2⟩⟩⟩⟩⟩)⟩, ⟨by (with_reducible repeat (first | apply Kd.V_alloc | apply Kd.V_drewN | apply Kd.V_drew)); exact Kd.V_mono (Kd.V_far (p := ⟨gb527, 0, none⟩) (Kd.V_mono HO_525002.out (fun k_ hk => (⟨hk, hk.1.2.2.2.2⟩ : _ ∧ k_ ≠ gb527))) (fun _ hk => hk.2) (.slice Ao39 y534.length co39)) (fun _ hk => ⟨hk.1.1.1, ⟨hk.1.2, ⟨hk.1.1.2.1, ⟨hk.1.1.2.2.1, ⟨hk.1.1.2.2.2.1, hk.1.1.2.2.2.2⟩⟩⟩⟩⟩)⟩, ⟨by (with_reducible repeat (first | apply Kd.N_alloc | apply Kd.N_drewN | apply Kd.N_drew)); exact Kd.N_mono (Kd.N_far (p := ⟨gb527, 0, none⟩) (Kd.N_mono HO536.out (fun k_ hk => (⟨hk, hk.2.2.2.2⟩ : _ ∧ k_ ≠ gb527))) (fun _ hk => hk.2) (.slice Ao39 y534.length co39)) (fun _ hk => ⟨hk.1.1, ⟨hk.1.2.1, ⟨hk.1.2.2.1, ⟨hk.1.2.2.2.1, hk.1.2.2.2.2⟩⟩⟩⟩)⟩, ⟨by (with_reducible repeat (first | refine kN ?_ _ | refine kD ?_ | refine kA ?_ _)); refine blk_far ?_ NB524_527.out _; (with_reducible repeat (first | refine kN ?_ _ | refine kD ?_ | refine kA ?_ _)); exact BK524.out⟩, ⟨by (with_reducible repeat (first | refine kN ?_ _ | refine kD ?_ | refine kA ?_ _)); refine blk_far ?_ NB525_527.out _; (with_reducible repeat (first | refine kN ?_ _ | refine kD ?_ | refine kA ?_ _)); exact BK525.out⟩, ⟨by (with_reducible repeat (first | refine kN ?_ _ | refine kD ?_ | refine kA ?_ _)); refine blk_far ?_ NB526_527.out _; (with_reducible repeat (first | refine kN ?_ _ | refine kD ?_ | refine kA ?_ _)); exact BK526.out⟩, ⟨by (with_reducible repeat (first | refine kN ?_ _ | refine kD ?_ | refine kA ?_ _)); refine kP (cs := #[u528000, .slice none 0 0, .slice none 0 0]) ?_ 0 _ rfl; (with_reducible repeat (first | refine kN ?_ _ | refine kD ?_ | refine kA ?_ _)); exact BK527.out⟩, ⟨bl⟩⟩
      ·rw [if_neg c31] at H
       exact absurd H (by simp)
     ·rw [if_neg c30] at H
      exact absurd H (by simp)
   ·rw [if_neg c11] at H
    have c11b0 : decide (x6_1 < (l0_0.length : Int)) = false := decide_eq_false c11
    clear c11
    have H' := aM H
    clear H
    have hnb41 := NB524_525.out
    have hnc41 := NB525_524.out
    have hnb42 := NB524_526.out
    have hnc42 := NB526_524.out
    have hnb43 := NB524_527.out
    have hnc43 := NB527_524.out
    obtain ⟨hcz44_0, hcz44_1, hcz44_2, hfz44_0, hfz44_1, hfz44_2⟩ := bc3 BK524
    go_wp2
    go_loopg [7] k1 (fun kq v7 w' => ∃ (x7_2 : Int) (x528001_2 : List (S45)) (u528001 : Value), v7 = .int .i64 x7_2 ∧ Aside0 (mapmakerlaw14_without.l1 kq x7_2 l0_0 l0_1 l0_2 a1_0 a1_1 x528000_1 x528001_2 = some (r1, r2, r3)) ∧ Aside0 (kq ≤ k1) ∧ Aside0 (Kd.V k39 39 w' w.heap.size (fun k_ => ((P0_0_ k_ ∨ P0_1_ k_ ∨ P0_2_ k_) ∨ w.heap.size ≤ k_) ∧ some k_ ≠ (u528000 : Value).ownBlock ∧ some k_ ≠ (u528001 : Value).ownBlock ∧ k_ ≠ gb524 ∧ k_ ≠ gb525 ∧ k_ ≠ gb526 ∧ k_ ≠ gb527) (.slice A0_0 l0_0.length c0_0) l0_0) ∧ Aside0 (Kd.V k45 45 w' w.heap.size (fun k_ => ((P0_0_ k_ ∨ P0_1_ k_ ∨ P0_2_ k_) ∨ w.heap.size ≤ k_) ∧ some k_ ≠ (u528000 : Value).ownBlock ∧ some k_ ≠ (u528001 : Value).ownBlock ∧ k_ ≠ gb524 ∧ k_ ≠ gb525 ∧ k_ ≠ gb526 ∧ k_ ≠ gb527) (.slice A0_1 l0_1.length c0_1) l0_1) ∧ Aside0 (Kd.V k51 51 w' w.heap.size (fun k_ => ((P0_0_ k_ ∨ P0_1_ k_ ∨ P0_2_ k_) ∨ w.heap.size ≤ k_) ∧ some k_ ≠ (u528000 : Value).ownBlock ∧ some k_ ≠ (u528001 : Value).ownBlock ∧ k_ ≠ gb524 ∧ k_ ≠ gb525 ∧ k_ ≠ gb526 ∧ k_ ≠ gb527) (.slice A0_2 l0_2.length c0_2) l0_2) ∧ Aside0 (Kd.N k39 39 w' w.heap.size (fun k_ => ((P0_0_ k_ ∨ P0_1_ k_ ∨ P0_2_ k_) ∨ w.heap.size ≤ k_) ∧ some k_ ≠ (u528001 : Value).ownBlock ∧ k_ ≠ gb524 ∧ k_ ≠ gb525 ∧ k_ ≠ gb526 ∧ k_ ≠ gb527) u528000 x528000_1) ∧ Aside0 (Kd.N k45 45 w' w.heap.size (fun k_ => ((P0_0_ k_ ∨ P0_1_ k_ ∨ P0_2_ k_) ∨ w.heap.size ≤ k_) ∧ some k_ ≠ (u528000 : Value).ownBlock ∧ k_ ≠ gb524 ∧ k_ ≠ gb525 ∧ k_ ≠ gb526 ∧ k_ ≠ gb527) u528001 x528001_2) ∧ Aside0 (w'.heap[gb524]? = some (.cells #[(.slice A0_0 l0_0.length c0_0), (.slice A0_1 l0_1.length c0_1), (.slice A0_2 l0_2.length c0_2)] 26 (0, 0))) ∧ Aside0 (w'.heap[gb525]? = some (.cells #[.int .i64 a1_0, .int .i64 a1_1] 34 (0, 0))) ∧ Aside0 (w'.heap[gb526]? = some (.cells #[(.slice none 0 0), (.slice none 0 0), (.slice none 0 0)] 26 (0, 0))) ∧ Aside0 (w'.heap[gb527]? = some (.cells #[u528000, u528001, (.slice none 0 0)] 26 (0, 0))) ∧ Aside0 (Below w.heap.size w w'))
    case atStart => exact ⟨(0), (([] : List (S45))), (.slice none 0 0), (by first | rfl | (simp; done) | (simp [*]; done)), H', ⟨Nat.le_refl _⟩, ⟨by (with_reducible repeat (first | apply Kd.V_alloc | apply Kd.V_drewN | apply Kd.V_drew)); exact Kd.V_mono HO_525000.out (fun _ hk => ⟨hk.1, ⟨hk.2.1, ⟨(by simp [Value.ownBlock]), ⟨hk.2.2.1, ⟨hk.2.2.2.1, ⟨hk.2.2.2.2.1, hk.2.2.2.2.2⟩⟩⟩⟩⟩⟩)⟩, ⟨by (with_reducible repeat (first | apply Kd.V_alloc | apply Kd.V_drewN | apply Kd.V_drew)); exact Kd.V_mono HO_525001.out (fun _ hk => ⟨hk.1, ⟨hk.2.1, ⟨(by simp [Value.ownBlock]), ⟨hk.2.2.1, ⟨hk.2.2.2.1, ⟨hk.2.2.2.2.1, hk.2.2.2.2.2⟩⟩⟩⟩⟩⟩)⟩, ⟨by (with_reducible repeat (first | apply Kd.V_alloc | apply Kd.V_drewN | apply Kd.V_drew)); exact Kd.V_mono HO_525002.out (fun _ hk => ⟨hk.1, ⟨hk.2.1, ⟨(by simp [Value.ownBlock]), ⟨hk.2.2.1, ⟨hk.2.2.2.1, ⟨hk.2.2.2.2.1, hk.2.2.2.2.2⟩⟩⟩⟩⟩⟩)⟩, ⟨by (with_reducible repeat (first | apply Kd.N_alloc | apply Kd.N_drewN | apply Kd.N_drew)); exact Kd.N_mono HO_528000.out (fun _ hk => ⟨hk.1, ⟨(by simp [Value.ownBlock]), ⟨hk.2.1, ⟨hk.2.2.1, ⟨hk.2.2.2.1, hk.2.2.2.2⟩⟩⟩⟩⟩)⟩, ⟨by first | exact Kd.S_nil _ _ _ _ _ | exact Kd.N_nil _ _ _ _ _ | exact Kd.V_nil _ _ _ _ _ | exact Kd.Q_nil _ _ _ _ _ | exact Kd.R_nil _ _ _ _ _⟩, ⟨by (with_reducible repeat (first | refine kN ?_ _ | refine kD ?_ | refine kA ?_ _)); exact BK524.out⟩, ⟨by (with_reducible repeat (first | refine kN ?_ _ | refine kD ?_ | refine kA ?_ _)); exact BK525.out⟩, ⟨by (with_reducible repeat (first | refine kN ?_ _ | refine kD ?_ | refine kA ?_ _)); exact BK526.out⟩, ⟨by (with_reducible repeat (first | refine kN ?_ _ | refine kD ?_ | refine kA ?_ _)); exact BK527.out⟩, ⟨bl⟩⟩
    case round =>
     clear H'
     try clear c1
     try clear c2
     try clear p2
     try clear c3
     try clear c4
     try clear c5
     try clear p5
     try clear q5
     try clear hx5
     try clear p6
     try clear c11
     try clear c11b0
     try clear c12
     try clear c12b0
     try clear c12b1
     try clear c13
     try clear c20
     try clear c30
     try clear c30b0
     try clear c31
     try clear c32
     try clear c33
     try clear c34
     try clear c41
     try clear c42
     try clear c43
     try clear hcz35_0 hcz35_1 hcz35_2 hfz35_0 hfz35_1 hfz35_2
     try clear hcz44_0 hcz44_1 hcz44_2 hfz44_0 hfz44_1 hfz44_2
     try clear hx529_0
     try clear hx529_1
     try clear hx529_2
     try clear hx529_3
     try clear hx533_0
     try clear hx533_1
     try clear hx533_2
     try clear hx533_3
     try clear p529
     try clear p533
     try clear q529
     try clear q533
     obtain ⟨x7_2, x528001_2, u528001, rfl, HA, HK2, HO_525000, HO_525001, HO_525002, HO_528000, HO_528001, BK524, BK525, BK526, BK527, HB⟩ := hrel
     cases gk with
     | zero => exact absurd HA.out (by simp [mapmakerlaw14_without.l1])
     | succ k2 =>
      have H := HA.out
      clear HA
      simp only [mapmakerlaw14_without.l1] at H
      by_cases c45 : x7_2 < (l0_1.length : Int)
      ·rw [if_pos c45] at H
       have c45b0 : decide (x7_2 < (l0_1.length : Int)) = true := decide_eq_true c45
       clear c45
       by_cases c46 : a1_0 = 2
       ·rw [if_pos c46] at H
        have c46b0 : (a1_0 == 2) = true := beq_iff_eq.mpr c46
        have c46b1 : (a1_0 != 2) = false := bne_eq_false_iff_eq.mpr c46
        clear c46
        by_cases c47 : 0 ≤ x7_2
        ·rw [if_pos c47] at H
         have c47b0 : decide (0 ≤ x7_2) = true := decide_eq_true c47
         clear c47
         by_cases c48 : ((rd_T45 l0_1 x7_2).f0) = a1_1
         ·rw [if_pos c48] at H
          have c48b0 : (((rd_T45 l0_1 x7_2).f0) == a1_1) = true := beq_iff_eq.mpr c48
          have c48b1 : (((rd_T45 l0_1 x7_2).f0) != a1_1) = false := bne_eq_false_iff_eq.mpr c48
          clear c48
          have H' := aM H
          clear H
          have hnb49 := NB524_525.out
          have hnc49 := NB525_524.out
          have hnb50 := NB524_526.out
          have hnc50 := NB526_524.out
          have hnb51 := NB524_527.out
          have hnc51 := NB527_524.out
          obtain ⟨hcz52_0, hcz52_1, hcz52_2, hfz52_0, hfz52_1, hfz52_2⟩ := bc3 BK524
          try go_wp2
          replace HO_525000 := aM (Kd.V_drew HO_525000.out)
          replace HO_525001 := aM (Kd.V_drew HO_525001.out)
          replace HO_525002 := aM (Kd.V_drew HO_525002.out)
          replace HO_528000 := aM (Kd.N_drew HO_528000.out)
          replace HO_528001 := aM (Kd.N_drew HO_528001.out)
          replace BK524 := aM (kD BK524.out)
          replace BK525 := aM (kD BK525.out)
          replace BK526 := aM (kD BK526.out)
          replace BK527 := aM (kD BK527.out)
          replace HB := aM (bD HB.out)
          have p537 : 0 ≤ (x7_2 : Int) := oT
          have q537 : x7_2 < (l0_1.length : Int) := oT
          obtain ⟨ad537, A537_1, c537_1, A537_2, c537_2, e537, hx537_0, hx537_1, hx537_2, hl537_1, hi537_1, hl537_2, hi537_2⟩ := at_T45 (Kd.V_reads' HO_525001.out).2.2 x7_2 p537 q537
          cases e537
          obtain ⟨ce537, hce537, hMe537, hcc537⟩ := Kd.V_get HO_525001.out z45 x7_2 p537 (by first | exact q537 | exact of_decide_eq_true (by first | (with_reducible assumption) | assumption) | (have e_ := (Kd.V_reads' HO_525001.out).1; omega))
          obtain ⟨ua537_1, uc537_1, ua537_2, uc537_2, rfl, ul537_1, ge537_1, ul537_2, ge537_2⟩ := k45_openF hMe537
          have hv537_1 := hcc537 1 _ rfl
          rw [add_field _ _ 1 (by omega)] at hv537_1
          replace hv537_1 := Option.some.inj (hv537_1.symm.trans hx537_1)
          injection hv537_1 with hva_ hvn_ hvc_
          rw [hva_] at ge537_1
          rw [hvc_] at ul537_1
          have HL537_1 := aM (show Kd.V (Kd.int .i64) 3 _ w.heap.size _ _ ((rd_T45 l0_1 x7_2).f1) from Kd.V_mk ul537_1 ge537_1)
          clear hva_ hvn_ hvc_ ge537_1 ul537_1
          have hv537_2 := hcc537 2 _ rfl
          rw [add_field _ _ 2 (by omega)] at hv537_2
          replace hv537_2 := Option.some.inj (hv537_2.symm.trans hx537_2)
          injection hv537_2 with hva_ hvn_ hvc_
          rw [hva_] at ge537_2
          rw [hvc_] at ul537_2
          have HL537_2 := aM (show Kd.V k70 70 _ w.heap.size _ _ ((rd_T45 l0_1 x7_2).f2) from Kd.V_mk ul537_2 ge537_2)
          clear hva_ hvn_ hvc_ ge537_2 ul537_2 hcc537 hce537
          have HR537_1 := aM hi537_1
          have HC537_1 := aM hl537_1
          clear hi537_1 hl537_1
          have HR537_2 := aM hi537_2
          have HC537_2 := aM hl537_2
          clear hi537_2 hl537_2
          replace p537 := eq_true p537
          replace q537 := eq_true q537
          refine start_ (n := 14) (S := fun w' => w'.cell? ⟨gb525, 0, none⟩ = some (.int .i64 a1_0) ∧ w'.cell? ⟨gb525, 1, none⟩ = some (.int .i64 a1_1) ∧ w'.cell? ⟨gb524, 0, none⟩ = some (.slice A0_0 l0_0.length c0_0) ∧ w'.cell? ⟨gb524, 1, none⟩ = some (.slice (some ad537) l0_1.length c0_1) ∧ w'.cell? ⟨gb524, 2, none⟩ = some (.slice A0_2 l0_2.length c0_2) ∧ w'.cell? (ad537.add ((x7_2).toNat * 3)) = some (.int .i64 ((rd_T45 l0_1 x7_2).f0)) ∧ w'.cell? ⟨(ad537.add ((x7_2).toNat * 3)).block, (ad537.add ((x7_2).toNat * 3)).off + 1, none⟩ = some (.slice A537_1 ((rd_T45 l0_1 x7_2).f1).length c537_1) ∧ w'.cell? ⟨(ad537.add ((x7_2).toNat * 3)).block, (ad537.add ((x7_2).toNat * 3)).off + 2, none⟩ = some (.slice A537_2 ((rd_T45 l0_1 x7_2).f2).length c537_2)) (ds := []) #[false, false, false, false, false, false, false, false, false, false, false, false, false, false] (by kernel_rfl) rfl rfl ⟨(kC BK525.out 0).trans rfl, (kC BK525.out 1).trans rfl, (kC BK524.out 0).trans rfl, (kC BK524.out 1).trans rfl, (kC BK524.out 2).trans rfl, hx537_0, hx537_1, hx537_2⟩ (fun hHeld => ?_); refine with_tabW mapmakerlaw14_without.tab10 mapmakerlaw14_without.bits10 (fun HT_ HW_ => ?_)
          generalize wr.drew = w53 at HO_525000 HO_525001 HO_525002 HO_528000 HO_528001 BK524 BK525 BK526 BK527 HB HL537_1 HL537_2 HR537_1 HR537_2 hx537_0 hx537_1 hx537_2 hHeld ⊢
          refine pure_ (i := 0) (N := some 48) (v := ?_) (a' := ?_) (ba 14 1) rfl rfl (any_of HT_.out (by kernel_rfl)) (fun _ _ _ h => h) (Or.inl ⟨by rfl, ?_⟩) ?_ ?_
          rotate_left
          ·intro w'
           go_simp
           with_reducible rfl
          rotate_left
          ·simp only [Act.put, sA, sB, sC, i64_w, i32_w]
           rfl
          refine take_ (i := 1) (N := some 49) (v := ?_) (a' := ?_) (ba 14 3) rfl rfl (take_ofW HT_.out HW_.out (by kernel_rfl)) (fun _ _ _ h => h) (Or.inl ⟨by rfl, ?_⟩) hHeld ?_ ?_
          rotate_left
          ·rintro w' ⟨s0, s1, s2, s3, s4, s5, s6, s7⟩
           go_simp
           with_reducible rfl
          rotate_left
          ·simp only [Act.put, sA, sB, sC, i64_w, i32_w]
           rfl
          refine pure_ (i := 2) (N := some 50) (v := ?_) (a' := ?_) (ba 14 7) rfl rfl (any_of HT_.out (by kernel_rfl)) (fun _ _ _ h => h) (Or.inl ⟨by rfl, ?_⟩) ?_ ?_
          rotate_left
          ·intro w'
           go_simp
           with_reducible rfl
          rotate_left
          ·simp only [Act.put, sA, sB, sC, i64_w, i32_w]
           rfl
          refine pure_ (i := 3) (N := some 51) (v := ?_) (a' := ?_) (ba 14 15) rfl rfl (any_of HT_.out (by kernel_rfl)) (fun _ _ _ h => h) (Or.inl ⟨by rfl, ?_⟩) ?_ ?_
          rotate_left
          ·intro w'
           go_simp
           with_reducible rfl
          rotate_left
          ·simp only [Act.put, sA, sB, sC, i64_w, i32_w]
           rfl
          refine pure_ (i := 4) (N := some 52) (v := ?_) (a' := ?_) (ba 14 31) rfl rfl (any_of HT_.out (by kernel_rfl)) (fun _ _ _ h => h) (Or.inl ⟨by rfl, ?_⟩) ?_ ?_
          rotate_left
          ·intro w'
           go_simp
           with_reducible rfl
          rotate_left
          ·simp only [Act.put, sA, sB, sC, i64_w, i32_w]
           rfl
          refine pure_ (i := 6) (N := some 54) (v := ?_) (a' := ?_) (ba 14 95) rfl rfl (any_of HT_.out (by kernel_rfl)) (fun _ _ _ h => h) (Or.inl ⟨by rfl, ?_⟩) ?_ ?_
          rotate_left
          ·intro w'
           go_simp
           with_reducible rfl
          rotate_left
          ·simp only [Act.put, sA, sB, sC, i64_w, i32_w]
           rfl
          refine pure_ (i := 10) (N := some 58) (v := ?_) (a' := ?_) (ba 14 1119) rfl rfl (any_of HT_.out (by kernel_rfl)) (fun _ _ _ h => h) (Or.inl ⟨by rfl, ?_⟩) ?_ ?_
          rotate_left
          ·intro w'
           go_simp
           with_reducible rfl
          rotate_left
          ·simp only [Act.put, sA, sB, sC, i64_w, i32_w]
           rfl
          refine take_ (i := 5) (N := some 53) (v := ?_) (a' := ?_) (ba 14 1151) rfl rfl (take_ofW HT_.out HW_.out (by kernel_rfl)) (fun _ _ _ h => h) (Or.inl ⟨by rfl, ?_⟩) hHeld ?_ ?_
          rotate_left
          ·rintro w' ⟨s0, s1, s2, s3, s4, s5, s6, s7⟩
           go_simp
           with_reducible rfl
          rotate_left
          ·simp only [Act.put, sA, sB, sC, i64_w, i32_w]
           rfl
          refine pure_ (i := 7) (N := some 55) (v := ?_) (a' := ?_) (ba 14 1279) rfl rfl (any_of HT_.out (by kernel_rfl)) (fun _ _ _ h => h) (Or.inl ⟨by rfl, ?_⟩) ?_ ?_
          rotate_left
          ·intro w'
           go_simp
           with_reducible rfl
          rotate_left
          ·simp only [Act.put, sA, sB, sC, i64_w, i32_w]
           rfl
          refine pure_ (i := 8) (N := some 56) (v := ?_) (a' := ?_) (ba 14 1535) rfl rfl (any_of HT_.out (by kernel_rfl)) (fun _ _ _ h => h) (Or.inl ⟨by rfl, ?_⟩) ?_ ?_
          rotate_left
          ·intro w'
           go_simp
           with_reducible rfl
          rotate_left
          ·simp only [Act.put, sA, sB, sC, i64_w, i32_w]
           rfl
          refine take_ (i := 9) (N := some 57) (v := ?_) (a' := ?_) (ba 14 2047) rfl rfl (take_ofW HT_.out HW_.out (by kernel_rfl)) (fun _ _ _ h => h) (Or.inl ⟨by rfl, ?_⟩) hHeld ?_ ?_
          rotate_left
          ·rintro w' ⟨s0, s1, s2, s3, s4, s5, s6, s7⟩
           go_simp
           with_reducible rfl
          rotate_left
          ·simp only [Act.put, sA, sB, sC, i64_w, i32_w]
           rfl
          refine take_ (i := 11) (N := some 59) (v := ?_) (a' := ?_) (ba 14 4095) rfl rfl (take_ofW HT_.out HW_.out (by kernel_rfl)) (fun _ _ _ h => h) (Or.inl ⟨by rfl, ?_⟩) hHeld ?_ ?_
          rotate_left
          ·rintro w' ⟨s0, s1, s2, s3, s4, s5, s6, s7⟩
           go_simp
           with_reducible rfl
          rotate_left
          ·simp only [Act.put, sA, sB, sC, i64_w, i32_w]
           rfl
          refine pure_ (i := 12) (N := some 60) (v := ?_) (a' := ?_) (ba 14 8191) rfl rfl (any_of HT_.out (by kernel_rfl)) (fun _ _ _ h => h) (Or.inl ⟨by rfl, ?_⟩) ?_ ?_
          rotate_left
          ·intro w'
           go_simp
           with_reducible rfl
          rotate_left
          ·simp only [Act.put, sA, sB, sC, i64_w, i32_w]
           rfl
          refine pure_ (i := 13) (N := some 61) (v := ?_) (a' := ?_) (ba 14 16383) rfl rfl (any_of HT_.out (by kernel_rfl)) (fun _ _ _ h => h) (Or.inl ⟨by rfl, ?_⟩) ?_ ?_
          rotate_left
          ·intro w'
           go_simp
           with_reducible rfl
          rotate_left
          ·simp only [Act.put, sA, sB, sC, i64_w, i32_w]
           rfl
          refine done_ (done_of HT_.out (by kernel_rfl)) ?_
          try go_wp2
          go_roundg k2
          case measure => have := HK1.out; have := HK2.out; omega
          case rel => exact ⟨(wrap64 (x7_2 + 1)), (x528001_2), (u528001), (by first | rfl | (simp; done) | (simp [*]; done)), H', ⟨by have := HK1.out; have := HK2.out; omega⟩, ⟨by (with_reducible repeat (first | apply Kd.V_alloc | apply Kd.V_drewN | apply Kd.V_drew)); exact HO_525000.out⟩, ⟨by (with_reducible repeat (first | apply Kd.V_alloc | apply Kd.V_drewN | apply Kd.V_drew)); exact HO_525001.out⟩, ⟨by (with_reducible repeat (first | apply Kd.V_alloc | apply Kd.V_drewN | apply Kd.V_drew)); exact HO_525002.out⟩, ⟨by (with_reducible repeat (first | apply Kd.N_alloc | apply Kd.N_drewN | apply Kd.N_drew)); exact HO_528000.out⟩, ⟨by (with_reducible repeat (first | apply Kd.N_alloc | apply Kd.N_drewN | apply Kd.N_drew)); exact HO_528001.out⟩, ⟨by (with_reducible repeat (first | refine kN ?_ _ | refine kD ?_ | refine kA ?_ _)); exact BK524.out⟩, ⟨by (with_reducible repeat (first | refine kN ?_ _ | refine kD ?_ | refine kA ?_ _)); exact BK525.out⟩, ⟨by (with_reducible repeat (first | refine kN ?_ _ | refine kD ?_ | refine kA ?_ _)); exact BK526.out⟩, ⟨by (with_reducible repeat (first | refine kN ?_ _ | refine kD ?_ | refine kA ?_ _)); exact BK527.out⟩, ⟨bl⟩⟩
         ·rw [if_neg c48] at H
          have c48b0 : (((rd_T45 l0_1 x7_2).f0) == a1_1) = false := beq_eq_false_iff_ne.mpr c48
          have c48b1 : (((rd_T45 l0_1 x7_2).f0) != a1_1) = true := bne_iff_ne.mpr c48
          by_cases c54 : x528001_2.length < 2513169434916
          ·rw [if_pos c54] at H
           have LMc54 := aM c54
           clear c54
           obtain ⟨y539, hy539⟩ : ∃ y_ : List (S45), y_ = (x528001_2 ++ [(⟨(rd_T45 l0_1 x7_2).f0, (rd_T45 l0_1 x7_2).f1, (rd_T45 l0_1 x7_2).f2⟩ : S45)]) := ⟨_, rfl⟩
           replace H : (mapmakerlaw14_without.l1 k2 (wrap64 (x7_2 + 1)) l0_0 l0_1 l0_2 a1_0 a1_1 x528000_1 y539) = some (r1, r2, r3) := by first | (rw [hy539]; with_reducible exact H) | (have H2_ := (Option.bind_some _ _).symm.trans H; rw [hy539]; with_reducible exact H2_) | (have H2_ := (Option.bind_some _ _).symm.trans H; with_reducible exact H2_) | with_reducible exact H | (rw [hy539]; exact H) | exact H
           have Ny539 := aM hy539
           clear hy539
           have H' := aM H
           clear H
           have hnb55 := NB524_525.out
           have hnc55 := NB525_524.out
           have hnb56 := NB524_526.out
           have hnc56 := NB526_524.out
           have hnb57 := NB524_527.out
           have hnc57 := NB527_524.out
           obtain ⟨hcz58_0, hcz58_1, hcz58_2, hfz58_0, hfz58_1, hfz58_2⟩ := bc3 BK524
           try go_wp2
           replace HO_525000 := aM (Kd.V_drew HO_525000.out)
           replace HO_525001 := aM (Kd.V_drew HO_525001.out)
           replace HO_525002 := aM (Kd.V_drew HO_525002.out)
           replace HO_528000 := aM (Kd.N_drew HO_528000.out)
           replace HO_528001 := aM (Kd.N_drew HO_528001.out)
           replace BK524 := aM (kD BK524.out)
           replace BK525 := aM (kD BK525.out)
           replace BK526 := aM (kD BK526.out)
           replace BK527 := aM (kD BK527.out)
           replace HB := aM (bD HB.out)
           have p537 : 0 ≤ (x7_2 : Int) := oT
           have q537 : x7_2 < (l0_1.length : Int) := oT
           obtain ⟨ad537, A537_1, c537_1, A537_2, c537_2, e537, hx537_0, hx537_1, hx537_2, hl537_1, hi537_1, hl537_2, hi537_2⟩ := at_T45 (Kd.V_reads' HO_525001.out).2.2 x7_2 p537 q537
           cases e537
           obtain ⟨ce537, hce537, hMe537, hcc537⟩ := Kd.V_get HO_525001.out z45 x7_2 p537 (by first | exact q537 | exact of_decide_eq_true (by first | (with_reducible assumption) | assumption) | (have e_ := (Kd.V_reads' HO_525001.out).1; omega))
           obtain ⟨ua537_1, uc537_1, ua537_2, uc537_2, rfl, ul537_1, ge537_1, ul537_2, ge537_2⟩ := k45_openF hMe537
           have hv537_1 := hcc537 1 _ rfl
           rw [add_field _ _ 1 (by omega)] at hv537_1
           replace hv537_1 := Option.some.inj (hv537_1.symm.trans hx537_1)
           injection hv537_1 with hva_ hvn_ hvc_
           rw [hva_] at ge537_1
           rw [hvc_] at ul537_1
           have HL537_1 := aM (show Kd.V (Kd.int .i64) 3 _ w.heap.size _ _ ((rd_T45 l0_1 x7_2).f1) from Kd.V_mk ul537_1 ge537_1)
           clear hva_ hvn_ hvc_ ge537_1 ul537_1
           have hv537_2 := hcc537 2 _ rfl
           rw [add_field _ _ 2 (by omega)] at hv537_2
           replace hv537_2 := Option.some.inj (hv537_2.symm.trans hx537_2)
           injection hv537_2 with hva_ hvn_ hvc_
           rw [hva_] at ge537_2
           rw [hvc_] at ul537_2
           have HL537_2 := aM (show Kd.V k70 70 _ w.heap.size _ _ ((rd_T45 l0_1 x7_2).f2) from Kd.V_mk ul537_2 ge537_2)
           clear hva_ hvn_ hvc_ ge537_2 ul537_2 hcc537 hce537
           have HR537_1 := aM hi537_1
           have HC537_1 := aM hl537_1
           clear hi537_1 hl537_1
           have HR537_2 := aM hi537_2
           have HC537_2 := aM hl537_2
           clear hi537_2 hl537_2
           replace p537 := eq_true p537
           replace q537 := eq_true q537
           refine start_ (n := 14) (S := fun w' => w'.cell? ⟨gb525, 0, none⟩ = some (.int .i64 a1_0) ∧ w'.cell? ⟨gb525, 1, none⟩ = some (.int .i64 a1_1) ∧ w'.cell? ⟨gb524, 0, none⟩ = some (.slice A0_0 l0_0.length c0_0) ∧ w'.cell? ⟨gb524, 1, none⟩ = some (.slice (some ad537) l0_1.length c0_1) ∧ w'.cell? ⟨gb524, 2, none⟩ = some (.slice A0_2 l0_2.length c0_2) ∧ w'.cell? (ad537.add ((x7_2).toNat * 3)) = some (.int .i64 ((rd_T45 l0_1 x7_2).f0)) ∧ w'.cell? ⟨(ad537.add ((x7_2).toNat * 3)).block, (ad537.add ((x7_2).toNat * 3)).off + 1, none⟩ = some (.slice A537_1 ((rd_T45 l0_1 x7_2).f1).length c537_1) ∧ w'.cell? ⟨(ad537.add ((x7_2).toNat * 3)).block, (ad537.add ((x7_2).toNat * 3)).off + 2, none⟩ = some (.slice A537_2 ((rd_T45 l0_1 x7_2).f2).length c537_2)) (ds := []) #[false, false, false, false, false, false, false, false, false, false, false, false, false, false] (by kernel_rfl) rfl rfl ⟨(kC BK525.out 0).trans rfl, (kC BK525.out 1).trans rfl, (kC BK524.out 0).trans rfl, (kC BK524.out 1).trans rfl, (kC BK524.out 2).trans rfl, hx537_0, hx537_1, hx537_2⟩ (fun hHeld => ?_); refine with_tabW mapmakerlaw14_without.tab10 mapmakerlaw14_without.bits10 (fun HT_ HW_ => ?_)
           generalize wr.drew = w59 at HO_525000 HO_525001 HO_525002 HO_528000 HO_528001 BK524 BK525 BK526 BK527 HB HL537_1 HL537_2 HR537_1 HR537_2 hx537_0 hx537_1 hx537_2 hHeld ⊢
           refine pure_ (i := 0) (N := some 48) (v := ?_) (a' := ?_) (ba 14 1) rfl rfl (any_of HT_.out (by kernel_rfl)) (fun _ _ _ h => h) (Or.inl ⟨by rfl, ?_⟩) ?_ ?_
           rotate_left
           ·intro w'
            go_simp
            with_reducible rfl
           rotate_left
           ·simp only [Act.put, sA, sB, sC, i64_w, i32_w]
            rfl
           refine take_ (i := 1) (N := some 49) (v := ?_) (a' := ?_) (ba 14 3) rfl rfl (take_ofW HT_.out HW_.out (by kernel_rfl)) (fun _ _ _ h => h) (Or.inl ⟨by rfl, ?_⟩) hHeld ?_ ?_
           rotate_left
           ·rintro w' ⟨s0, s1, s2, s3, s4, s5, s6, s7⟩
            go_simp
            with_reducible rfl
           rotate_left
           ·simp only [Act.put, sA, sB, sC, i64_w, i32_w]
            rfl
           refine pure_ (i := 2) (N := some 50) (v := ?_) (a' := ?_) (ba 14 7) rfl rfl (any_of HT_.out (by kernel_rfl)) (fun _ _ _ h => h) (Or.inl ⟨by rfl, ?_⟩) ?_ ?_
           rotate_left
           ·intro w'
            go_simp
            with_reducible rfl
           rotate_left
           ·simp only [Act.put, sA, sB, sC, i64_w, i32_w]
            rfl
           refine pure_ (i := 3) (N := some 51) (v := ?_) (a' := ?_) (ba 14 15) rfl rfl (any_of HT_.out (by kernel_rfl)) (fun _ _ _ h => h) (Or.inl ⟨by rfl, ?_⟩) ?_ ?_
           rotate_left
           ·intro w'
            go_simp
            with_reducible rfl
           rotate_left
           ·simp only [Act.put, sA, sB, sC, i64_w, i32_w]
            rfl
           refine pure_ (i := 4) (N := some 52) (v := ?_) (a' := ?_) (ba 14 31) rfl rfl (any_of HT_.out (by kernel_rfl)) (fun _ _ _ h => h) (Or.inl ⟨by rfl, ?_⟩) ?_ ?_
           rotate_left
           ·intro w'
            go_simp
            with_reducible rfl
           rotate_left
           ·simp only [Act.put, sA, sB, sC, i64_w, i32_w]
            rfl
           refine pure_ (i := 6) (N := some 54) (v := ?_) (a' := ?_) (ba 14 95) rfl rfl (any_of HT_.out (by kernel_rfl)) (fun _ _ _ h => h) (Or.inl ⟨by rfl, ?_⟩) ?_ ?_
           rotate_left
           ·intro w'
            go_simp
            with_reducible rfl
           rotate_left
           ·simp only [Act.put, sA, sB, sC, i64_w, i32_w]
            rfl
           refine pure_ (i := 10) (N := some 58) (v := ?_) (a' := ?_) (ba 14 1119) rfl rfl (any_of HT_.out (by kernel_rfl)) (fun _ _ _ h => h) (Or.inl ⟨by rfl, ?_⟩) ?_ ?_
           rotate_left
           ·intro w'
            go_simp
            with_reducible rfl
           rotate_left
           ·simp only [Act.put, sA, sB, sC, i64_w, i32_w]
            rfl
           refine take_ (i := 5) (N := some 53) (v := ?_) (a' := ?_) (ba 14 1151) rfl rfl (take_ofW HT_.out HW_.out (by kernel_rfl)) (fun _ _ _ h => h) (Or.inl ⟨by rfl, ?_⟩) hHeld ?_ ?_
           rotate_left
           ·rintro w' ⟨s0, s1, s2, s3, s4, s5, s6, s7⟩
            go_simp
            with_reducible rfl
           rotate_left
           ·simp only [Act.put, sA, sB, sC, i64_w, i32_w]
            rfl
           refine pure_ (i := 7) (N := some 55) (v := ?_) (a' := ?_) (ba 14 1279) rfl rfl (any_of HT_.out (by kernel_rfl)) (fun _ _ _ h => h) (Or.inl ⟨by rfl, ?_⟩) ?_ ?_
           rotate_left
           ·intro w'
            go_simp
            with_reducible rfl
           rotate_left
           ·simp only [Act.put, sA, sB, sC, i64_w, i32_w]
            rfl
           refine pure_ (i := 8) (N := some 56) (v := ?_) (a' := ?_) (ba 14 1535) rfl rfl (any_of HT_.out (by kernel_rfl)) (fun _ _ _ h => h) (Or.inl ⟨by rfl, ?_⟩) ?_ ?_
           rotate_left
           ·intro w'
            go_simp
            with_reducible rfl
           rotate_left
           ·simp only [Act.put, sA, sB, sC, i64_w, i32_w]
            rfl
           refine take_ (i := 9) (N := some 57) (v := ?_) (a' := ?_) (ba 14 2047) rfl rfl (take_ofW HT_.out HW_.out (by kernel_rfl)) (fun _ _ _ h => h) (Or.inl ⟨by rfl, ?_⟩) hHeld ?_ ?_
           rotate_left
           ·rintro w' ⟨s0, s1, s2, s3, s4, s5, s6, s7⟩
            go_simp
            with_reducible rfl
           rotate_left
           ·simp only [Act.put, sA, sB, sC, i64_w, i32_w]
            rfl
           refine take_ (i := 11) (N := some 59) (v := ?_) (a' := ?_) (ba 14 4095) rfl rfl (take_ofW HT_.out HW_.out (by kernel_rfl)) (fun _ _ _ h => h) (Or.inl ⟨by rfl, ?_⟩) hHeld ?_ ?_
           rotate_left
           ·rintro w' ⟨s0, s1, s2, s3, s4, s5, s6, s7⟩
            go_simp
            with_reducible rfl
           rotate_left
           ·simp only [Act.put, sA, sB, sC, i64_w, i32_w]
            rfl
           refine pure_ (i := 12) (N := some 60) (v := ?_) (a' := ?_) (ba 14 8191) rfl rfl (any_of HT_.out (by kernel_rfl)) (fun _ _ _ h => h) (Or.inl ⟨by rfl, ?_⟩) ?_ ?_
           rotate_left
           ·intro w'
            go_simp
            with_reducible rfl
           rotate_left
           ·simp only [Act.put, sA, sB, sC, i64_w, i32_w]
            rfl
           refine pure_ (i := 13) (N := some 61) (v := ?_) (a' := ?_) (ba 14 16383) rfl rfl (any_of HT_.out (by kernel_rfl)) (fun _ _ _ h => h) (Or.inl ⟨by rfl, ?_⟩) ?_ ?_
           rotate_left
           ·intro w'
            go_simp
            with_reducible rfl
           rotate_left
           ·simp only [Act.put, sA, sB, sC, i64_w, i32_w]
            rfl
           refine done_ (done_of HT_.out (by kernel_rfl)) ?_
           try go_wp2
           replace HO_525000 := aM (Kd.V_drew HO_525000.out)
           replace HO_525001 := aM (Kd.V_drew HO_525001.out)
           replace HO_525002 := aM (Kd.V_drew HO_525002.out)
           replace HO_528000 := aM (Kd.N_drew HO_528000.out)
           replace HO_528001 := aM (Kd.N_drew HO_528001.out)
           replace BK524 := aM (kD BK524.out)
           replace BK525 := aM (kD BK525.out)
           replace BK526 := aM (kD BK526.out)
           replace BK527 := aM (kD BK527.out)
           replace HB := aM (bD HB.out)
           clear HL537_1 HL537_2 HR537_1 HR537_2
           have p538 : 0 ≤ (x7_2 : Int) := oT
           have q538 : x7_2 < (l0_1.length : Int) := oT
           obtain ⟨ad538, A538_1, c538_1, A538_2, c538_2, e538, hx538_0, hx538_1, hx538_2, hl538_1, hi538_1, hl538_2, hi538_2⟩ := at_T45 (Kd.V_reads' HO_525001.out).2.2 x7_2 p538 q538
           obtain rfl : ad537 = ad538 := (by injection e538)
           obtain ⟨ce538, hce538, hMe538, hcc538⟩ := Kd.V_get HO_525001.out z45 x7_2 p538 (by first | exact q538 | exact of_decide_eq_true (by first | (with_reducible assumption) | assumption) | (have e_ := (Kd.V_reads' HO_525001.out).1; omega))
           obtain ⟨ua538_1, uc538_1, ua538_2, uc538_2, rfl, ul538_1, ge538_1, ul538_2, ge538_2⟩ := k45_openF hMe538
           have hv538_1 := hcc538 1 _ rfl
           rw [add_field _ _ 1 (by omega)] at hv538_1
           replace hv538_1 := Option.some.inj (hv538_1.symm.trans hx538_1)
           injection hv538_1 with hva_ hvn_ hvc_
           rw [hva_] at ge538_1
           rw [hvc_] at ul538_1
           have HL538_1 := aM (show Kd.V (Kd.int .i64) 3 _ w.heap.size _ _ ((rd_T45 l0_1 x7_2).f1) from Kd.V_mk ul538_1 ge538_1)
           clear hva_ hvn_ hvc_ ge538_1 ul538_1
           have hv538_2 := hcc538 2 _ rfl
           rw [add_field _ _ 2 (by omega)] at hv538_2
           replace hv538_2 := Option.some.inj (hv538_2.symm.trans hx538_2)
           injection hv538_2 with hva_ hvn_ hvc_
           rw [hva_] at ge538_2
           rw [hvc_] at ul538_2
           have HL538_2 := aM (show Kd.V k70 70 _ w.heap.size _ _ ((rd_T45 l0_1 x7_2).f2) from Kd.V_mk ul538_2 ge538_2)
           clear hva_ hvn_ hvc_ ge538_2 ul538_2 hcc538 hce538
           have HR538_1 := aM hi538_1
           have HC538_1 := aM hl538_1
           clear hi538_1 hl538_1
           have HR538_2 := aM hi538_2
           have HC538_2 := aM hl538_2
           clear hi538_2 hl538_2
           replace p538 := eq_true p538
           replace q538 := eq_true q538
           refine start_ (n := 11) (S := fun w' => w'.cell? ⟨gb527, 0, none⟩ = some (u528000) ∧ w'.cell? ⟨gb527, 1, none⟩ = some (u528001) ∧ w'.cell? ⟨gb527, 2, none⟩ = some (.slice none 0 0) ∧ w'.cell? ⟨gb524, 0, none⟩ = some (.slice A0_0 l0_0.length c0_0) ∧ w'.cell? ⟨gb524, 1, none⟩ = some (.slice (some ad537) l0_1.length c0_1) ∧ w'.cell? ⟨gb524, 2, none⟩ = some (.slice A0_2 l0_2.length c0_2) ∧ w'.cell? (ad537.add ((x7_2).toNat * 3)) = some (.int .i64 ((rd_T45 l0_1 x7_2).f0)) ∧ w'.cell? ⟨(ad537.add ((x7_2).toNat * 3)).block, (ad537.add ((x7_2).toNat * 3)).off + 1, none⟩ = some (.slice A538_1 ((rd_T45 l0_1 x7_2).f1).length c538_1) ∧ w'.cell? ⟨(ad537.add ((x7_2).toNat * 3)).block, (ad537.add ((x7_2).toNat * 3)).off + 2, none⟩ = some (.slice A538_2 ((rd_T45 l0_1 x7_2).f2).length c538_2)) (ds := [8, 10]) #[false, false, false, false, false, false, false, false, false, false, false] (by kernel_rfl) rfl rfl ⟨(kC BK527.out 0).trans rfl, (kC BK527.out 1).trans rfl, (kC BK527.out 2).trans rfl, (kC BK524.out 0).trans rfl, (kC BK524.out 1).trans rfl, (kC BK524.out 2).trans rfl, hx538_0, hx538_1, hx538_2⟩ (fun hHeld => ?_); refine with_tabW mapmakerlaw14_without.tab11 mapmakerlaw14_without.bits11 (fun HT_ HW_ => ?_)
           generalize w59.drew = w60 at HO_525000 HO_525001 HO_525002 HO_528000 HO_528001 BK524 BK525 BK526 BK527 HB HL538_1 HL538_2 HR538_1 HR538_2 hx538_0 hx538_1 hx538_2 hHeld ⊢
           refine pure_ (i := 0) (N := some 62) (v := ?_) (a' := ?_) (ba 11 1) rfl rfl (any_of HT_.out (by kernel_rfl)) (fun _ _ _ h => h) (Or.inl ⟨by rfl, ?_⟩) ?_ ?_
           rotate_left
           ·intro w'
            go_simp
            with_reducible rfl
           rotate_left
           ·simp only [Act.put, sA, sB, sC, i64_w, i32_w]
            rfl
           refine pure_ (i := 2) (N := some 64) (v := ?_) (a' := ?_) (ba 11 5) rfl rfl (any_of HT_.out (by kernel_rfl)) (fun _ _ _ h => h) (Or.inl ⟨by rfl, ?_⟩) ?_ ?_
           rotate_left
           ·intro w'
            go_simp
            with_reducible rfl
           rotate_left
           ·simp only [Act.put, sA, sB, sC, i64_w, i32_w]
            rfl
           refine pure_ (i := 4) (N := some 66) (v := ?_) (a' := ?_) (ba 11 21) rfl rfl (any_of HT_.out (by kernel_rfl)) (fun _ _ _ h => h) (Or.inl ⟨by rfl, ?_⟩) ?_ ?_
           rotate_left
           ·intro w'
            go_simp
            with_reducible rfl
           rotate_left
           ·simp only [Act.put, sA, sB, sC, i64_w, i32_w]
            rfl
           refine take_ (i := 1) (N := some 63) (v := ?_) (a' := ?_) (ba 11 23) rfl rfl (take_ofW HT_.out HW_.out (by kernel_rfl)) (fun _ _ _ h => h) (Or.inl ⟨by rfl, ?_⟩) hHeld ?_ ?_
           rotate_left
           ·rintro w' ⟨s0, s1, s2, s3, s4, s5, s6, s7, s8⟩
            go_simp
            with_reducible rfl
           rotate_left
           ·simp only [Act.put, sA, sB, sC, i64_w, i32_w]
            rfl
           refine take_ (i := 3) (N := some 65) (v := ?_) (a' := ?_) (ba 11 31) rfl rfl (take_ofW HT_.out HW_.out (by kernel_rfl)) (fun _ _ _ h => h) (Or.inl ⟨by rfl, ?_⟩) hHeld ?_ ?_
           rotate_left
           ·rintro w' ⟨s0, s1, s2, s3, s4, s5, s6, s7, s8⟩
            go_simp
            with_reducible rfl
           rotate_left
           ·simp only [Act.put, sA, sB, sC, i64_w, i32_w]
            rfl
           refine pure_ (i := 5) (N := some 67) (v := ?_) (a' := ?_) (ba 11 63) rfl rfl (any_of HT_.out (by kernel_rfl)) (fun _ _ _ h => h) (Or.inl ⟨by rfl, ?_⟩) ?_ ?_
           rotate_left
           ·intro w'
            go_simp
            with_reducible rfl
           rotate_left
           ·simp only [Act.put, sA, sB, sC, i64_w, i32_w]
            rfl
           refine take_ (i := 6) (N := some 68) (v := ?_) (a' := ?_) (ba 11 127) rfl rfl (take_ofW HT_.out HW_.out (by kernel_rfl)) (fun _ _ _ h => h) (Or.inl ⟨by rfl, ?_⟩) hHeld ?_ ?_
           rotate_left
           ·rintro w' ⟨s0, s1, s2, s3, s4, s5, s6, s7, s8⟩
            go_simp
            with_reducible rfl
           rotate_left
           ·simp only [Act.put, sA, sB, sC, i64_w, i32_w]
            rfl
           refine one_ (i := 7) (N := some 69) (ba 11 255) rfl rfl (one_of HT_.out (by kernel_rfl)) (by decide) (fun K hK => ?_)
           refine value_ (w1 := ?_) (v := ?_) (by rfl) rfl ?_ ?_
           rotate_left 2
           ·go_simp
            constructor
            ·rfl
            ·rfl
           refine hK.out _ _ ⟨(kC (kA BK527.out _) 0).trans rfl, (kC (kA BK527.out _) 1).trans rfl, (kC (kA BK527.out _) 2).trans rfl, (kC (kA BK524.out _) 0).trans rfl, (kC (kA BK524.out _) 1).trans rfl, (kC (kA BK524.out _) 2).trans rfl, (World.cell?_alloc_lt _ _ _ (World.block_lt_of_cell? _ _ (hHeld.2.2.2.2.2.2.1))).trans (hHeld.2.2.2.2.2.2.1), (World.cell?_alloc_lt _ _ _ (World.block_lt_of_cell? _ _ (hHeld.2.2.2.2.2.2.2.1))).trans (hHeld.2.2.2.2.2.2.2.1), (World.cell?_alloc_lt _ _ _ (World.block_lt_of_cell? _ _ (hHeld.2.2.2.2.2.2.2.2))).trans (hHeld.2.2.2.2.2.2.2.2)⟩ (fun hHeld => ?_)
           clear hK K
           refine norm_ (a' := ?_) ?_ ?_
           rotate_left
           ·show Act.put _ (some 69) _ = _
            simp only [Act.put, sA, sB, sC, i64_w, i32_w]
            rfl
           refine last_ (i := 8) (N := some 70) (ba 11 511) rfl rfl (one_of HT_.out (by kernel_rfl)) (by decide) (fun K hK => ?_)
           refine Kd.N_append_step k45 (w0 := w) w.heap.size (by rfl) (.tmp 63) (.tmp 69) 23 45 (.agg #[(.int .i64 0), (.slice none 0 0), (.slice none 0 0)]) 56 rfl Try.underlying23 info45 rfl (by decide) (by omega) u528001 x528001_2 (⟨(rd_T45 l0_1 x7_2).f0, (rd_T45 l0_1 x7_2).f1, (rd_T45 l0_1 x7_2).f2⟩ : S45) [.int .i64 ((rd_T45 l0_1 x7_2).f0), .slice A538_1 ((rd_T45 l0_1 x7_2).f1).length c538_1, .slice A538_2 ((rd_T45 l0_1 x7_2).f2).length c538_2] (fun k_ => ((P0_0_ k_ ∨ P0_1_ k_ ∨ P0_2_ k_) ∨ w.heap.size ≤ k_) ∧ some k_ ≠ (u528000 : Value).ownBlock ∧ k_ ≠ gb524 ∧ k_ ≠ gb525 ∧ k_ ≠ gb526 ∧ k_ ≠ gb527) (fun k_ => ((fun k_ => ((P0_0_ k_ ∨ P0_1_ k_ ∨ P0_2_ k_) ∨ w.heap.size ≤ k_) ∧ some k_ ≠ (u528000 : Value).ownBlock ∧ k_ ≠ gb524 ∧ k_ ≠ gb525 ∧ k_ ≠ gb526 ∧ k_ ≠ gb527)) k_ ∧ some k_ ≠ (u528001 : Value).ownBlock) rfl rfl ?aP (fun _ hk => hk) ?aF ?aO ?aB ?aS ?aL ?_
           (case aP => exact (k45_mkF _ _ (⟨(rd_T45 l0_1 x7_2).f0, (rd_T45 l0_1 x7_2).f1, (rd_T45 l0_1 x7_2).f2⟩ : S45) (Kd.V_reads' (Kd.V_mono (ok' := (fun k_ => ((fun k_ => ((P0_0_ k_ ∨ P0_1_ k_ ∨ P0_2_ k_) ∨ w.heap.size ≤ k_) ∧ some k_ ≠ (u528000 : Value).ownBlock ∧ k_ ≠ gb524 ∧ k_ ≠ gb525 ∧ k_ ≠ gb526 ∧ k_ ≠ gb527)) k_ ∧ some k_ ≠ (u528001 : Value).ownBlock)) (HL538_1.out) (fun k_ hk => ⟨⟨hk.1, ⟨hk.2.1, ⟨hk.2.2.2.1, ⟨hk.2.2.2.2.1, ⟨hk.2.2.2.2.2.1, hk.2.2.2.2.2.2⟩⟩⟩⟩⟩, hk.2.2.1⟩))).2.1 (Kd.V_F (Kd.V_mono (ok' := (fun k_ => ((fun k_ => ((P0_0_ k_ ∨ P0_1_ k_ ∨ P0_2_ k_) ∨ w.heap.size ≤ k_) ∧ some k_ ≠ (u528000 : Value).ownBlock ∧ k_ ≠ gb524 ∧ k_ ≠ gb525 ∧ k_ ≠ gb526 ∧ k_ ≠ gb527)) k_ ∧ some k_ ≠ (u528001 : Value).ownBlock)) (HL538_1.out) (fun k_ hk => ⟨⟨hk.1, ⟨hk.2.1, ⟨hk.2.2.2.1, ⟨hk.2.2.2.2.1, ⟨hk.2.2.2.2.2.1, hk.2.2.2.2.2.2⟩⟩⟩⟩⟩, hk.2.2.1⟩))) (Kd.V_reads' (Kd.V_mono (ok' := (fun k_ => ((fun k_ => ((P0_0_ k_ ∨ P0_1_ k_ ∨ P0_2_ k_) ∨ w.heap.size ≤ k_) ∧ some k_ ≠ (u528000 : Value).ownBlock ∧ k_ ≠ gb524 ∧ k_ ≠ gb525 ∧ k_ ≠ gb526 ∧ k_ ≠ gb527)) k_ ∧ some k_ ≠ (u528001 : Value).ownBlock)) (HL538_2.out) (fun k_ hk => ⟨⟨hk.1, ⟨hk.2.1, ⟨hk.2.2.2.1, ⟨hk.2.2.2.2.1, ⟨hk.2.2.2.2.2.1, hk.2.2.2.2.2.2⟩⟩⟩⟩⟩, hk.2.2.1⟩))).2.1 (Kd.V_F (Kd.V_mono (ok' := (fun k_ => ((fun k_ => ((P0_0_ k_ ∨ P0_1_ k_ ∨ P0_2_ k_) ∨ w.heap.size ≤ k_) ∧ some k_ ≠ (u528000 : Value).ownBlock ∧ k_ ≠ gb524 ∧ k_ ≠ gb525 ∧ k_ ≠ gb526 ∧ k_ ≠ gb527)) k_ ∧ some k_ ≠ (u528001 : Value).ownBlock)) (HL538_2.out) (fun k_ hk => ⟨⟨hk.1, ⟨hk.2.1, ⟨hk.2.2.2.1, ⟨hk.2.2.2.2.1, ⟨hk.2.2.2.2.2.1, hk.2.2.2.2.2.2⟩⟩⟩⟩⟩, hk.2.2.1⟩)))))
           (case aB => exact (bl))
           (case aF => exact (fun k_ hk => ⟨(.inr (Nat.le_trans (below_size (bl)) hk)), Kd.fresh' (Kd.N_lt (by (with_reducible repeat (first | apply Kd.N_alloc | apply Kd.N_drewN | apply Kd.N_drew)); exact HO_528000.out)) k_ hk, Kd.freshB (kl BK524) k_ hk, Kd.freshB (kl BK525) k_ hk, Kd.freshB (kl BK526) k_ hk, Kd.freshB (kl BK527) k_ hk⟩))
           (case aO => exact (by (with_reducible repeat (first | apply Kd.N_alloc | apply Kd.N_drewN | apply Kd.N_drew)); exact HO_528001.out))
           (case aS => exact (below_size (bl)))
           (case aL => have := LMc54.out; omega)
           intro v540 w61 ho hb hg hat
           rw [← Ny539.out] at ho
           have HO541 := aM (ho)
           replace HO_525000 := aM (Kd.V_afterv (ok := (fun k_ => ((P0_0_ k_ ∨ P0_1_ k_ ∨ P0_2_ k_) ∨ w.heap.size ≤ k_) ∧ some k_ ≠ (u528000 : Value).ownBlock ∧ k_ ≠ gb524 ∧ k_ ≠ gb525 ∧ k_ ≠ gb526 ∧ k_ ≠ gb527)) (by (with_reducible repeat (first | apply Kd.V_alloc | apply Kd.V_drewN | apply Kd.V_drew)); exact Kd.V_mono HO_525000.out (fun _ hk => ⟨⟨hk.1, ⟨hk.2.1, ⟨hk.2.2.2.1, ⟨hk.2.2.2.2.1, ⟨hk.2.2.2.2.2.1, hk.2.2.2.2.2.2⟩⟩⟩⟩⟩, hk.2.2.1⟩)) hg hat)
           replace HO_525001 := aM (Kd.V_afterv (ok := (fun k_ => ((P0_0_ k_ ∨ P0_1_ k_ ∨ P0_2_ k_) ∨ w.heap.size ≤ k_) ∧ some k_ ≠ (u528000 : Value).ownBlock ∧ k_ ≠ gb524 ∧ k_ ≠ gb525 ∧ k_ ≠ gb526 ∧ k_ ≠ gb527)) (by (with_reducible repeat (first | apply Kd.V_alloc | apply Kd.V_drewN | apply Kd.V_drew)); exact Kd.V_mono HO_525001.out (fun _ hk => ⟨⟨hk.1, ⟨hk.2.1, ⟨hk.2.2.2.1, ⟨hk.2.2.2.2.1, ⟨hk.2.2.2.2.2.1, hk.2.2.2.2.2.2⟩⟩⟩⟩⟩, hk.2.2.1⟩)) hg hat)
           replace HO_525002 := aM (Kd.V_afterv (ok := (fun k_ => ((P0_0_ k_ ∨ P0_1_ k_ ∨ P0_2_ k_) ∨ w.heap.size ≤ k_) ∧ some k_ ≠ (u528000 : Value).ownBlock ∧ k_ ≠ gb524 ∧ k_ ≠ gb525 ∧ k_ ≠ gb526 ∧ k_ ≠ gb527)) (by (with_reducible repeat (first | apply Kd.V_alloc | apply Kd.V_drewN | apply Kd.V_drew)); exact Kd.V_mono HO_525002.out (fun _ hk => ⟨⟨hk.1, ⟨hk.2.1, ⟨hk.2.2.2.1, ⟨hk.2.2.2.2.1, ⟨hk.2.2.2.2.2.1, hk.2.2.2.2.2.2⟩⟩⟩⟩⟩, hk.2.2.1⟩)) hg hat)
           replace HO_528000 := aM (Kd.N_afterv (ok := (fun k_ => ((P0_0_ k_ ∨ P0_1_ k_ ∨ P0_2_ k_) ∨ w.heap.size ≤ k_) ∧ k_ ≠ gb524 ∧ k_ ≠ gb525 ∧ k_ ≠ gb526 ∧ k_ ≠ gb527)) (by (with_reducible repeat (first | apply Kd.N_alloc | apply Kd.N_drewN | apply Kd.N_drew)); exact Kd.N_mono HO_528000.out (fun _ hk => ⟨⟨hk.1, ⟨hk.2.2.1, ⟨hk.2.2.2.1, ⟨hk.2.2.2.2.1, hk.2.2.2.2.2⟩⟩⟩⟩, hk.2.1⟩)) hg hat)
           replace BK524 := aM (blk_grown (kl BK524) hg (Kd.N_ne HO_528001.out BK524.out (by decide)))
           replace BK525 := aM (blk_grown (kl BK525) hg (Kd.N_ne HO_528001.out BK525.out (by decide)))
           replace BK526 := aM (blk_grown (kl BK526) hg (Kd.N_ne HO_528001.out BK526.out (by decide)))
           replace BK527 := aM (blk_grown (kl BK527) hg (Kd.N_ne HO_528001.out BK527.out (by decide)))
           replace HB := aM (hb)
           clear HL538_1 HL538_2 HO_528001 ho hb hg hat
           obtain ⟨Ao62, co62, eo62⟩ := Kd.N_slice HO541.out
           (first | subst eo62 | (injection eo62 with f1_ f2_ f3_; have f4_ := f1_.symm; have f5_ := f3_.symm; clear f1_ f2_ f3_; subst f4_; subst f5_))
           refine hK.out _ _ ?_
           clear hK K
           refine norm_ (a' := ?_) ?_ ?_
           rotate_left
           ·show Act.put _ (some 70) _ = _
            simp only [Act.put, sA, sB, sC, i64_w, i32_w]
            rfl
           refine pure_ (i := 9) (N := some 71) (v := ?_) (a' := ?_) (ba 11 1023) rfl rfl (any_of HT_.out (by kernel_rfl)) (fun _ _ _ h => h) (Or.inl ⟨by rfl, ?_⟩) ?_ ?_
           rotate_left
           ·intro w'
            go_simp
            with_reducible rfl
           rotate_left
           ·simp only [Act.put, sA, sB, sC, i64_w, i32_w]
            rfl
           refine last_ (i := 10) (N := none) (ba 11 2047) rfl rfl (one_of HT_.out (by kernel_rfl)) (by decide) (fun K hK => ?_)
           have hs63 : w61.cell? ⟨gb527, 1, none⟩ = some (u528001) := (kC BK527.out 1).trans rfl
           have hfs63 := kF BK527.out 1
           have hns63_0 := NB524_527.out
           have hns63_1 := NB525_527.out
           have hns63_2 := NB526_527.out
           have hms63_0 := NB527_524.out
           have hms63_1 := NB527_525.out
           have hms63_2 := NB527_526.out
           refine skip_ (w1 := ?_) (by rfl) rfl ?_ ?_
           rotate_left
           ·go_simp
            rfl
           refine hK.out _ _ ?_
           clear hK K
           refine done_ (done_of HT_.out (by kernel_rfl)) ?_
           try go_wp2
           go_roundg k2
           case measure => have := HK1.out; have := HK2.out; omega
           case rel => exact ⟨(wrap64 (x7_2 + 1)), (y539), (.slice Ao62 y539.length co62), (by first | rfl | (simp; done) | (simp [*]; done)), H', ⟨by have := HK1.out; have := HK2.out; omega⟩, ⟨by (with_reducible repeat (first | apply Kd.V_alloc | apply Kd.V_drewN | apply Kd.V_drew)); exact Kd.V_mono (Kd.V_far (p := ⟨gb527, 1, none⟩) (Kd.V_mono HO_525000.out (fun k_ hk => (⟨hk, hk.1.2.2.2.2.2⟩ : _ ∧ k_ ≠ gb527))) (fun _ hk => hk.2) (.slice Ao62 y539.length co62)) (fun _ hk => ⟨hk.1.1.1, ⟨hk.1.1.2.1, ⟨hk.1.2, ⟨hk.1.1.2.2.1, ⟨hk.1.1.2.2.2.1, ⟨hk.1.1.2.2.2.2.1, hk.1.1.2.2.2.2.2⟩⟩⟩⟩⟩⟩)⟩, ⟨by (with_reducible repeat (first | apply Kd.V_alloc | apply Kd.V_drewN | apply Kd.V_drew)); exact Kd.V_mono (Kd.V_far (p := ⟨gb527, 1, none⟩) (Kd.V_mono HO_525001.out (fun k_ hk => (⟨hk, hk.1.2.2.2.2.2⟩ : _ ∧ k_ ≠ gb527))) (fun _ hk => hk.2) (.slice Ao62 y539.length co62)) (fun _ hk => ⟨hk.1.1.1, ⟨hk.1.1.2.1, ⟨hk.1.2, ⟨hk.1.1.2.2.1, ⟨hk.1.1.2.2.2.1, ⟨hk.1.1.2.2.2.2.1, hk.1.1.2.2.2.2.2⟩⟩⟩⟩⟩⟩)⟩, ⟨by (with_reducible repeat (first | apply Kd.V_alloc | apply Kd.V_drewN | apply Kd.V_drew)); exact Kd.V_mono (Kd.V_far (p := ⟨gb527, 1, none⟩) (Kd.V_mono HO_525002.out (fun k_ hk => (⟨hk, hk.1.2.2.2.2.2⟩ : _ ∧ k_ ≠ gb527))) (fun _ hk => hk.2) (.slice Ao62 y539.length co62)) (fun _ hk => ⟨hk.1.1.1, ⟨hk.1.1.2.1, ⟨hk.1.2, ⟨hk.1.1.2.2.1, ⟨hk.1.1.2.2.2.1, ⟨hk.1.1.2.2.2.2.1, hk.1.1.2.2.2.2.2⟩⟩⟩⟩⟩⟩)⟩, ⟨by (with_reducible repeat (first | apply Kd.N_alloc | apply Kd.N_drewN | apply Kd.N_drew)); exact Kd.N_mono (Kd.N_far (p := ⟨gb527, 1, none⟩) (Kd.N_mono HO_528000.out (fun k_ hk => (⟨hk, hk.1.2.2.2.2⟩ : _ ∧ k_ ≠ gb527))) (fun _ hk => hk.2) (.slice Ao62 y539.length co62)) (fun _ hk => ⟨hk.1.1.1, ⟨hk.1.2, ⟨hk.1.1.2.1, ⟨hk.1.1.2.2.1, ⟨hk.1.1.2.2.2.1, hk.1.1.2.2.2.2⟩⟩⟩⟩⟩)⟩, ⟨by (with_reducible repeat (first | apply Kd.N_alloc | apply Kd.N_drewN | apply Kd.N_drew)); exact Kd.N_mono (Kd.N_far (p := ⟨gb527, 1, none⟩) (Kd.N_mono HO541.out (fun k_ hk => (⟨hk, hk.2.2.2.2.2⟩ : _ ∧ k_ ≠ gb527))) (fun _ hk => hk.2) (.slice Ao62 y539.length co62)) (fun _ hk => ⟨hk.1.1, ⟨hk.1.2.1, ⟨hk.1.2.2.1, ⟨hk.1.2.2.2.1, ⟨hk.1.2.2.2.2.1, hk.1.2.2.2.2.2⟩⟩⟩⟩⟩)⟩, ⟨by (with_reducible repeat (first | refine kN ?_ _ | refine kD ?_ | refine kA ?_ _)); refine blk_far ?_ NB524_527.out _; (with_reducible repeat (first | refine kN ?_ _ | refine kD ?_ | refine kA ?_ _)); exact BK524.out⟩, ⟨by (with_reducible repeat (first | refine kN ?_ _ | refine kD ?_ | refine kA ?_ _)); refine blk_far ?_ NB525_527.out _; (with_reducible repeat (first | refine kN ?_ _ | refine kD ?_ | refine kA ?_ _)); exact BK525.out⟩, ⟨by (with_reducible repeat (first | refine kN ?_ _ | refine kD ?_ | refine kA ?_ _)); refine blk_far ?_ NB526_527.out _; (with_reducible repeat (first | refine kN ?_ _ | refine kD ?_ | refine kA ?_ _)); exact BK526.out⟩, ⟨by (with_reducible repeat (first | refine kN ?_ _ | refine kD ?_ | refine kA ?_ _)); refine kP (cs := #[u528000, u528001, .slice none 0 0]) ?_ 1 _ rfl; (with_reducible repeat (first | refine kN ?_ _ | refine kD ?_ | refine kA ?_ _)); exact BK527.out⟩, ⟨bl⟩⟩
          ·rw [if_neg c54] at H
           exact absurd H (by simp)
        ·rw [if_neg c47] at H
         exact absurd H (by simp)
       ·rw [if_neg c46] at H
        have c46b0 : (a1_0 == 2) = false := beq_eq_false_iff_ne.mpr c46
        have c46b1 : (a1_0 != 2) = true := bne_iff_ne.mpr c46
        by_cases c64 : 0 ≤ x7_2
        ·rw [if_pos c64] at H
         have c64b0 : decide (0 ≤ x7_2) = true := decide_eq_true c64
         clear c64
         by_cases c65 : x528001_2.length < 2513169434916
         ·rw [if_pos c65] at H
          have LMc65 := aM c65
          clear c65
          obtain ⟨y543, hy543⟩ : ∃ y_ : List (S45), y_ = (x528001_2 ++ [(⟨(rd_T45 l0_1 x7_2).f0, (rd_T45 l0_1 x7_2).f1, (rd_T45 l0_1 x7_2).f2⟩ : S45)]) := ⟨_, rfl⟩
          replace H : (mapmakerlaw14_without.l1 k2 (wrap64 (x7_2 + 1)) l0_0 l0_1 l0_2 a1_0 a1_1 x528000_1 y543) = some (r1, r2, r3) := by first | (rw [hy543]; with_reducible exact H) | (have H2_ := (Option.bind_some _ _).symm.trans H; rw [hy543]; with_reducible exact H2_) | (have H2_ := (Option.bind_some _ _).symm.trans H; with_reducible exact H2_) | with_reducible exact H | (rw [hy543]; exact H) | exact H
          have Ny543 := aM hy543
          clear hy543
          have H' := aM H
          clear H
          have hnb66 := NB524_525.out
          have hnc66 := NB525_524.out
          have hnb67 := NB524_526.out
          have hnc67 := NB526_524.out
          have hnb68 := NB524_527.out
          have hnc68 := NB527_524.out
          obtain ⟨hcz69_0, hcz69_1, hcz69_2, hfz69_0, hfz69_1, hfz69_2⟩ := bc3 BK524
          try go_wp2
          replace HO_525000 := aM (Kd.V_drew HO_525000.out)
          replace HO_525001 := aM (Kd.V_drew HO_525001.out)
          replace HO_525002 := aM (Kd.V_drew HO_525002.out)
          replace HO_528000 := aM (Kd.N_drew HO_528000.out)
          replace HO_528001 := aM (Kd.N_drew HO_528001.out)
          replace BK524 := aM (kD BK524.out)
          replace BK525 := aM (kD BK525.out)
          replace BK526 := aM (kD BK526.out)
          replace BK527 := aM (kD BK527.out)
          replace HB := aM (bD HB.out)
          refine start_ (n := 14) (S := fun w' => w'.cell? ⟨gb525, 0, none⟩ = some (.int .i64 a1_0) ∧ w'.cell? ⟨gb525, 1, none⟩ = some (.int .i64 a1_1)) (ds := []) #[false, false, false, false, false, false, false, false, false, false, false, false, false, false] (by kernel_rfl) rfl rfl ⟨(kC BK525.out 0).trans rfl, (kC BK525.out 1).trans rfl⟩ (fun hHeld => ?_); refine with_tabW mapmakerlaw14_without.tab10 mapmakerlaw14_without.bits10 (fun HT_ HW_ => ?_)
          generalize wr.drew = w70 at HO_525000 HO_525001 HO_525002 HO_528000 HO_528001 BK524 BK525 BK526 BK527 HB hHeld ⊢
          refine pure_ (i := 0) (N := some 48) (v := ?_) (a' := ?_) (ba 14 1) rfl rfl (any_of HT_.out (by kernel_rfl)) (fun _ _ _ h => h) (Or.inl ⟨by rfl, ?_⟩) ?_ ?_
          rotate_left
          ·intro w'
           go_simp
           with_reducible rfl
          rotate_left
          ·simp only [Act.put, sA, sB, sC, i64_w, i32_w]
           rfl
          refine take_ (i := 1) (N := some 49) (v := ?_) (a' := ?_) (ba 14 3) rfl rfl (take_ofW HT_.out HW_.out (by kernel_rfl)) (fun _ _ _ h => h) (Or.inl ⟨by rfl, ?_⟩) hHeld ?_ ?_
          rotate_left
          ·rintro w' ⟨s0, s1⟩
           go_simp
           with_reducible rfl
          rotate_left
          ·simp only [Act.put, sA, sB, sC, i64_w, i32_w]
           rfl
          refine pure_ (i := 2) (N := some 50) (v := ?_) (a' := ?_) (ba 14 7) rfl rfl (any_of HT_.out (by kernel_rfl)) (fun _ _ _ h => h) (Or.inl ⟨by rfl, ?_⟩) ?_ ?_
          rotate_left
          ·intro w'
           go_simp
           with_reducible rfl
          rotate_left
          ·simp only [Act.put, sA, sB, sC, i64_w, i32_w]
           rfl
          refine pure_ (i := 3) (N := some 51) (v := ?_) (a' := ?_) (ba 14 15) rfl rfl (any_of HT_.out (by kernel_rfl)) (fun _ _ _ h => h) (Or.inl ⟨by rfl, ?_⟩) ?_ ?_
          rotate_left
          ·intro w'
           go_simp
           with_reducible rfl
          rotate_left
          ·simp only [Act.put, sA, sB, sC, i64_w, i32_w]
           rfl
          refine pure_ (i := 4) (N := some 52) (v := undef) (a' := ?_) (ba 14 31) rfl rfl (any_of HT_.out (by kernel_rfl)) (fun _ _ _ h => h) (Or.inr ⟨by rfl, rfl⟩) ?_ ?_
          rotate_left
          ·simp only [Act.put, sA, sB, sC, i64_w, i32_w]
           rfl
          refine pure_ (i := 5) (N := some 53) (v := undef) (a' := ?_) (ba 14 63) rfl rfl (any_of HT_.out (by kernel_rfl)) (fun _ _ _ h => h) (Or.inr ⟨by rfl, rfl⟩) ?_ ?_
          rotate_left
          ·simp only [Act.put, sA, sB, sC, i64_w, i32_w]
           rfl
          refine pure_ (i := 6) (N := some 54) (v := undef) (a' := ?_) (ba 14 127) rfl rfl (any_of HT_.out (by kernel_rfl)) (fun _ _ _ h => h) (Or.inr ⟨by rfl, rfl⟩) ?_ ?_
          rotate_left
          ·simp only [Act.put, sA, sB, sC, i64_w, i32_w]
           rfl
          refine pure_ (i := 7) (N := some 55) (v := undef) (a' := ?_) (ba 14 255) rfl rfl (any_of HT_.out (by kernel_rfl)) (fun _ _ _ h => h) (Or.inr ⟨by rfl, rfl⟩) ?_ ?_
          rotate_left
          ·simp only [Act.put, sA, sB, sC, i64_w, i32_w]
           rfl
          refine pure_ (i := 8) (N := some 56) (v := undef) (a' := ?_) (ba 14 511) rfl rfl (any_of HT_.out (by kernel_rfl)) (fun _ _ _ h => h) (Or.inr ⟨by rfl, rfl⟩) ?_ ?_
          rotate_left
          ·simp only [Act.put, sA, sB, sC, i64_w, i32_w]
           rfl
          refine pure_ (i := 9) (N := some 57) (v := undef) (a' := ?_) (ba 14 1023) rfl rfl (any_of HT_.out (by kernel_rfl)) (fun _ _ _ h => h) (Or.inr ⟨by rfl, rfl⟩) ?_ ?_
          rotate_left
          ·simp only [Act.put, sA, sB, sC, i64_w, i32_w]
           rfl
          refine pure_ (i := 10) (N := some 58) (v := undef) (a' := ?_) (ba 14 2047) rfl rfl (any_of HT_.out (by kernel_rfl)) (fun _ _ _ h => h) (Or.inr ⟨by rfl, rfl⟩) ?_ ?_
          rotate_left
          ·simp only [Act.put, sA, sB, sC, i64_w, i32_w]
           rfl
          refine pure_ (i := 11) (N := some 59) (v := undef) (a' := ?_) (ba 14 4095) rfl rfl (any_of HT_.out (by kernel_rfl)) (fun _ _ _ h => h) (Or.inr ⟨by rfl, rfl⟩) ?_ ?_
          rotate_left
          ·simp only [Act.put, sA, sB, sC, i64_w, i32_w]
           rfl
          refine pure_ (i := 12) (N := some 60) (v := undef) (a' := ?_) (ba 14 8191) rfl rfl (any_of HT_.out (by kernel_rfl)) (fun _ _ _ h => h) (Or.inr ⟨by rfl, rfl⟩) ?_ ?_
          rotate_left
          ·simp only [Act.put, sA, sB, sC, i64_w, i32_w]
           rfl
          refine pure_ (i := 13) (N := some 61) (v := ?_) (a' := ?_) (ba 14 16383) rfl rfl (any_of HT_.out (by kernel_rfl)) (fun _ _ _ h => h) (Or.inl ⟨by rfl, ?_⟩) ?_ ?_
          rotate_left
          ·intro w'
           go_simp
           with_reducible rfl
          rotate_left
          ·simp only [Act.put, sA, sB, sC, i64_w, i32_w]
           rfl
          refine done_ (done_of HT_.out (by kernel_rfl)) ?_
          try go_wp2
          replace HO_525000 := aM (Kd.V_drew HO_525000.out)
          replace HO_525001 := aM (Kd.V_drew HO_525001.out)
          replace HO_525002 := aM (Kd.V_drew HO_525002.out)
          replace HO_528000 := aM (Kd.N_drew HO_528000.out)
          replace HO_528001 := aM (Kd.N_drew HO_528001.out)
          replace BK524 := aM (kD BK524.out)
          replace BK525 := aM (kD BK525.out)
          replace BK526 := aM (kD BK526.out)
          replace BK527 := aM (kD BK527.out)
          replace HB := aM (bD HB.out)
          have p542 : 0 ≤ (x7_2 : Int) := oT
          have q542 : x7_2 < (l0_1.length : Int) := oT
          obtain ⟨ad542, A542_1, c542_1, A542_2, c542_2, e542, hx542_0, hx542_1, hx542_2, hl542_1, hi542_1, hl542_2, hi542_2⟩ := at_T45 (Kd.V_reads' HO_525001.out).2.2 x7_2 p542 q542
          cases e542
          obtain ⟨ce542, hce542, hMe542, hcc542⟩ := Kd.V_get HO_525001.out z45 x7_2 p542 (by first | exact q542 | exact of_decide_eq_true (by first | (with_reducible assumption) | assumption) | (have e_ := (Kd.V_reads' HO_525001.out).1; omega))
          obtain ⟨ua542_1, uc542_1, ua542_2, uc542_2, rfl, ul542_1, ge542_1, ul542_2, ge542_2⟩ := k45_openF hMe542
          have hv542_1 := hcc542 1 _ rfl
          rw [add_field _ _ 1 (by omega)] at hv542_1
          replace hv542_1 := Option.some.inj (hv542_1.symm.trans hx542_1)
          injection hv542_1 with hva_ hvn_ hvc_
          rw [hva_] at ge542_1
          rw [hvc_] at ul542_1
          have HL542_1 := aM (show Kd.V (Kd.int .i64) 3 _ w.heap.size _ _ ((rd_T45 l0_1 x7_2).f1) from Kd.V_mk ul542_1 ge542_1)
          clear hva_ hvn_ hvc_ ge542_1 ul542_1
          have hv542_2 := hcc542 2 _ rfl
          rw [add_field _ _ 2 (by omega)] at hv542_2
          replace hv542_2 := Option.some.inj (hv542_2.symm.trans hx542_2)
          injection hv542_2 with hva_ hvn_ hvc_
          rw [hva_] at ge542_2
          rw [hvc_] at ul542_2
          have HL542_2 := aM (show Kd.V k70 70 _ w.heap.size _ _ ((rd_T45 l0_1 x7_2).f2) from Kd.V_mk ul542_2 ge542_2)
          clear hva_ hvn_ hvc_ ge542_2 ul542_2 hcc542 hce542
          have HR542_1 := aM hi542_1
          have HC542_1 := aM hl542_1
          clear hi542_1 hl542_1
          have HR542_2 := aM hi542_2
          have HC542_2 := aM hl542_2
          clear hi542_2 hl542_2
          replace p542 := eq_true p542
          replace q542 := eq_true q542
          refine start_ (n := 11) (S := fun w' => w'.cell? ⟨gb527, 0, none⟩ = some (u528000) ∧ w'.cell? ⟨gb527, 1, none⟩ = some (u528001) ∧ w'.cell? ⟨gb527, 2, none⟩ = some (.slice none 0 0) ∧ w'.cell? ⟨gb524, 0, none⟩ = some (.slice A0_0 l0_0.length c0_0) ∧ w'.cell? ⟨gb524, 1, none⟩ = some (.slice (some ad542) l0_1.length c0_1) ∧ w'.cell? ⟨gb524, 2, none⟩ = some (.slice A0_2 l0_2.length c0_2) ∧ w'.cell? (ad542.add ((x7_2).toNat * 3)) = some (.int .i64 ((rd_T45 l0_1 x7_2).f0)) ∧ w'.cell? ⟨(ad542.add ((x7_2).toNat * 3)).block, (ad542.add ((x7_2).toNat * 3)).off + 1, none⟩ = some (.slice A542_1 ((rd_T45 l0_1 x7_2).f1).length c542_1) ∧ w'.cell? ⟨(ad542.add ((x7_2).toNat * 3)).block, (ad542.add ((x7_2).toNat * 3)).off + 2, none⟩ = some (.slice A542_2 ((rd_T45 l0_1 x7_2).f2).length c542_2)) (ds := [8, 10]) #[false, false, false, false, false, false, false, false, false, false, false] (by kernel_rfl) rfl rfl ⟨(kC BK527.out 0).trans rfl, (kC BK527.out 1).trans rfl, (kC BK527.out 2).trans rfl, (kC BK524.out 0).trans rfl, (kC BK524.out 1).trans rfl, (kC BK524.out 2).trans rfl, hx542_0, hx542_1, hx542_2⟩ (fun hHeld => ?_); refine with_tabW mapmakerlaw14_without.tab11 mapmakerlaw14_without.bits11 (fun HT_ HW_ => ?_)
          generalize w70.drew = w71 at HO_525000 HO_525001 HO_525002 HO_528000 HO_528001 BK524 BK525 BK526 BK527 HB HL542_1 HL542_2 HR542_1 HR542_2 hx542_0 hx542_1 hx542_2 hHeld ⊢
          refine pure_ (i := 0) (N := some 62) (v := ?_) (a' := ?_) (ba 11 1) rfl rfl (any_of HT_.out (by kernel_rfl)) (fun _ _ _ h => h) (Or.inl ⟨by rfl, ?_⟩) ?_ ?_
          rotate_left
          ·intro w'
           go_simp
           with_reducible rfl
          rotate_left
          ·simp only [Act.put, sA, sB, sC, i64_w, i32_w]
           rfl
          refine pure_ (i := 2) (N := some 64) (v := ?_) (a' := ?_) (ba 11 5) rfl rfl (any_of HT_.out (by kernel_rfl)) (fun _ _ _ h => h) (Or.inl ⟨by rfl, ?_⟩) ?_ ?_
          rotate_left
          ·intro w'
           go_simp
           with_reducible rfl
          rotate_left
          ·simp only [Act.put, sA, sB, sC, i64_w, i32_w]
           rfl
          refine pure_ (i := 4) (N := some 66) (v := ?_) (a' := ?_) (ba 11 21) rfl rfl (any_of HT_.out (by kernel_rfl)) (fun _ _ _ h => h) (Or.inl ⟨by rfl, ?_⟩) ?_ ?_
          rotate_left
          ·intro w'
           go_simp
           with_reducible rfl
          rotate_left
          ·simp only [Act.put, sA, sB, sC, i64_w, i32_w]
           rfl
          refine take_ (i := 1) (N := some 63) (v := ?_) (a' := ?_) (ba 11 23) rfl rfl (take_ofW HT_.out HW_.out (by kernel_rfl)) (fun _ _ _ h => h) (Or.inl ⟨by rfl, ?_⟩) hHeld ?_ ?_
          rotate_left
          ·rintro w' ⟨s0, s1, s2, s3, s4, s5, s6, s7, s8⟩
           go_simp
           with_reducible rfl
          rotate_left
          ·simp only [Act.put, sA, sB, sC, i64_w, i32_w]
           rfl
          refine take_ (i := 3) (N := some 65) (v := ?_) (a' := ?_) (ba 11 31) rfl rfl (take_ofW HT_.out HW_.out (by kernel_rfl)) (fun _ _ _ h => h) (Or.inl ⟨by rfl, ?_⟩) hHeld ?_ ?_
          rotate_left
          ·rintro w' ⟨s0, s1, s2, s3, s4, s5, s6, s7, s8⟩
           go_simp
           with_reducible rfl
          rotate_left
          ·simp only [Act.put, sA, sB, sC, i64_w, i32_w]
           rfl
          refine pure_ (i := 5) (N := some 67) (v := ?_) (a' := ?_) (ba 11 63) rfl rfl (any_of HT_.out (by kernel_rfl)) (fun _ _ _ h => h) (Or.inl ⟨by rfl, ?_⟩) ?_ ?_
          rotate_left
          ·intro w'
           go_simp
           with_reducible rfl
          rotate_left
          ·simp only [Act.put, sA, sB, sC, i64_w, i32_w]
           rfl
          refine take_ (i := 6) (N := some 68) (v := ?_) (a' := ?_) (ba 11 127) rfl rfl (take_ofW HT_.out HW_.out (by kernel_rfl)) (fun _ _ _ h => h) (Or.inl ⟨by rfl, ?_⟩) hHeld ?_ ?_
          rotate_left
          ·rintro w' ⟨s0, s1, s2, s3, s4, s5, s6, s7, s8⟩
           go_simp
           with_reducible rfl
          rotate_left
          ·simp only [Act.put, sA, sB, sC, i64_w, i32_w]
           rfl
          refine one_ (i := 7) (N := some 69) (ba 11 255) rfl rfl (one_of HT_.out (by kernel_rfl)) (by decide) (fun K hK => ?_)
          refine value_ (w1 := ?_) (v := ?_) (by rfl) rfl ?_ ?_
          rotate_left 2
          ·go_simp
           constructor
           ·rfl
           ·rfl
          refine hK.out _ _ ⟨(kC (kA BK527.out _) 0).trans rfl, (kC (kA BK527.out _) 1).trans rfl, (kC (kA BK527.out _) 2).trans rfl, (kC (kA BK524.out _) 0).trans rfl, (kC (kA BK524.out _) 1).trans rfl, (kC (kA BK524.out _) 2).trans rfl, (World.cell?_alloc_lt _ _ _ (World.block_lt_of_cell? _ _ (hHeld.2.2.2.2.2.2.1))).trans (hHeld.2.2.2.2.2.2.1), (World.cell?_alloc_lt _ _ _ (World.block_lt_of_cell? _ _ (hHeld.2.2.2.2.2.2.2.1))).trans (hHeld.2.2.2.2.2.2.2.1), (World.cell?_alloc_lt _ _ _ (World.block_lt_of_cell? _ _ (hHeld.2.2.2.2.2.2.2.2))).trans (hHeld.2.2.2.2.2.2.2.2)⟩ (fun hHeld => ?_)
          clear hK K
          refine norm_ (a' := ?_) ?_ ?_
          rotate_left
          ·show Act.put _ (some 69) _ = _
           simp only [Act.put, sA, sB, sC, i64_w, i32_w]
           rfl
          refine last_ (i := 8) (N := some 70) (ba 11 511) rfl rfl (one_of HT_.out (by kernel_rfl)) (by decide) (fun K hK => ?_)
          refine Kd.N_append_step k45 (w0 := w) w.heap.size (by rfl) (.tmp 63) (.tmp 69) 23 45 (.agg #[(.int .i64 0), (.slice none 0 0), (.slice none 0 0)]) 56 rfl Try.underlying23 info45 rfl (by decide) (by omega) u528001 x528001_2 (⟨(rd_T45 l0_1 x7_2).f0, (rd_T45 l0_1 x7_2).f1, (rd_T45 l0_1 x7_2).f2⟩ : S45) [.int .i64 ((rd_T45 l0_1 x7_2).f0), .slice A542_1 ((rd_T45 l0_1 x7_2).f1).length c542_1, .slice A542_2 ((rd_T45 l0_1 x7_2).f2).length c542_2] (fun k_ => ((P0_0_ k_ ∨ P0_1_ k_ ∨ P0_2_ k_) ∨ w.heap.size ≤ k_) ∧ some k_ ≠ (u528000 : Value).ownBlock ∧ k_ ≠ gb524 ∧ k_ ≠ gb525 ∧ k_ ≠ gb526 ∧ k_ ≠ gb527) (fun k_ => ((fun k_ => ((P0_0_ k_ ∨ P0_1_ k_ ∨ P0_2_ k_) ∨ w.heap.size ≤ k_) ∧ some k_ ≠ (u528000 : Value).ownBlock ∧ k_ ≠ gb524 ∧ k_ ≠ gb525 ∧ k_ ≠ gb526 ∧ k_ ≠ gb527)) k_ ∧ some k_ ≠ (u528001 : Value).ownBlock) rfl rfl ?aP (fun _ hk => hk) ?aF ?aO ?aB ?aS ?aL ?_
          (case aP => exact (k45_mkF _ _ (⟨(rd_T45 l0_1 x7_2).f0, (rd_T45 l0_1 x7_2).f1, (rd_T45 l0_1 x7_2).f2⟩ : S45) (Kd.V_reads' (Kd.V_mono (ok' := (fun k_ => ((fun k_ => ((P0_0_ k_ ∨ P0_1_ k_ ∨ P0_2_ k_) ∨ w.heap.size ≤ k_) ∧ some k_ ≠ (u528000 : Value).ownBlock ∧ k_ ≠ gb524 ∧ k_ ≠ gb525 ∧ k_ ≠ gb526 ∧ k_ ≠ gb527)) k_ ∧ some k_ ≠ (u528001 : Value).ownBlock)) (HL542_1.out) (fun k_ hk => ⟨⟨hk.1, ⟨hk.2.1, ⟨hk.2.2.2.1, ⟨hk.2.2.2.2.1, ⟨hk.2.2.2.2.2.1, hk.2.2.2.2.2.2⟩⟩⟩⟩⟩, hk.2.2.1⟩))).2.1 (Kd.V_F (Kd.V_mono (ok' := (fun k_ => ((fun k_ => ((P0_0_ k_ ∨ P0_1_ k_ ∨ P0_2_ k_) ∨ w.heap.size ≤ k_) ∧ some k_ ≠ (u528000 : Value).ownBlock ∧ k_ ≠ gb524 ∧ k_ ≠ gb525 ∧ k_ ≠ gb526 ∧ k_ ≠ gb527)) k_ ∧ some k_ ≠ (u528001 : Value).ownBlock)) (HL542_1.out) (fun k_ hk => ⟨⟨hk.1, ⟨hk.2.1, ⟨hk.2.2.2.1, ⟨hk.2.2.2.2.1, ⟨hk.2.2.2.2.2.1, hk.2.2.2.2.2.2⟩⟩⟩⟩⟩, hk.2.2.1⟩))) (Kd.V_reads' (Kd.V_mono (ok' := (fun k_ => ((fun k_ => ((P0_0_ k_ ∨ P0_1_ k_ ∨ P0_2_ k_) ∨ w.heap.size ≤ k_) ∧ some k_ ≠ (u528000 : Value).ownBlock ∧ k_ ≠ gb524 ∧ k_ ≠ gb525 ∧ k_ ≠ gb526 ∧ k_ ≠ gb527)) k_ ∧ some k_ ≠ (u528001 : Value).ownBlock)) (HL542_2.out) (fun k_ hk => ⟨⟨hk.1, ⟨hk.2.1, ⟨hk.2.2.2.1, ⟨hk.2.2.2.2.1, ⟨hk.2.2.2.2.2.1, hk.2.2.2.2.2.2⟩⟩⟩⟩⟩, hk.2.2.1⟩))).2.1 (Kd.V_F (Kd.V_mono (ok' := (fun k_ => ((fun k_ => ((P0_0_ k_ ∨ P0_1_ k_ ∨ P0_2_ k_) ∨ w.heap.size ≤ k_) ∧ some k_ ≠ (u528000 : Value).ownBlock ∧ k_ ≠ gb524 ∧ k_ ≠ gb525 ∧ k_ ≠ gb526 ∧ k_ ≠ gb527)) k_ ∧ some k_ ≠ (u528001 : Value).ownBlock)) (HL542_2.out) (fun k_ hk => ⟨⟨hk.1, ⟨hk.2.1, ⟨hk.2.2.2.1, ⟨hk.2.2.2.2.1, ⟨hk.2.2.2.2.2.1, hk.2.2.2.2.2.2⟩⟩⟩⟩⟩, hk.2.2.1⟩)))))
          (case aB => exact (bl))
          (case aF => exact (fun k_ hk => ⟨(.inr (Nat.le_trans (below_size (bl)) hk)), Kd.fresh' (Kd.N_lt (by (with_reducible repeat (first | apply Kd.N_alloc | apply Kd.N_drewN | apply Kd.N_drew)); exact HO_528000.out)) k_ hk, Kd.freshB (kl BK524) k_ hk, Kd.freshB (kl BK525) k_ hk, Kd.freshB (kl BK526) k_ hk, Kd.freshB (kl BK527) k_ hk⟩))
          (case aO => exact (by (with_reducible repeat (first | apply Kd.N_alloc | apply Kd.N_drewN | apply Kd.N_drew)); exact HO_528001.out))
          (case aS => exact (below_size (bl)))
          (case aL => have := LMc65.out; omega)
          intro v544 w72 ho hb hg hat
          rw [← Ny543.out] at ho
          have HO545 := aM (ho)
          replace HO_525000 := aM (Kd.V_afterv (ok := (fun k_ => ((P0_0_ k_ ∨ P0_1_ k_ ∨ P0_2_ k_) ∨ w.heap.size ≤ k_) ∧ some k_ ≠ (u528000 : Value).ownBlock ∧ k_ ≠ gb524 ∧ k_ ≠ gb525 ∧ k_ ≠ gb526 ∧ k_ ≠ gb527)) (by (with_reducible repeat (first | apply Kd.V_alloc | apply Kd.V_drewN | apply Kd.V_drew)); exact Kd.V_mono HO_525000.out (fun _ hk => ⟨⟨hk.1, ⟨hk.2.1, ⟨hk.2.2.2.1, ⟨hk.2.2.2.2.1, ⟨hk.2.2.2.2.2.1, hk.2.2.2.2.2.2⟩⟩⟩⟩⟩, hk.2.2.1⟩)) hg hat)
          replace HO_525001 := aM (Kd.V_afterv (ok := (fun k_ => ((P0_0_ k_ ∨ P0_1_ k_ ∨ P0_2_ k_) ∨ w.heap.size ≤ k_) ∧ some k_ ≠ (u528000 : Value).ownBlock ∧ k_ ≠ gb524 ∧ k_ ≠ gb525 ∧ k_ ≠ gb526 ∧ k_ ≠ gb527)) (by (with_reducible repeat (first | apply Kd.V_alloc | apply Kd.V_drewN | apply Kd.V_drew)); exact Kd.V_mono HO_525001.out (fun _ hk => ⟨⟨hk.1, ⟨hk.2.1, ⟨hk.2.2.2.1, ⟨hk.2.2.2.2.1, ⟨hk.2.2.2.2.2.1, hk.2.2.2.2.2.2⟩⟩⟩⟩⟩, hk.2.2.1⟩)) hg hat)
          replace HO_525002 := aM (Kd.V_afterv (ok := (fun k_ => ((P0_0_ k_ ∨ P0_1_ k_ ∨ P0_2_ k_) ∨ w.heap.size ≤ k_) ∧ some k_ ≠ (u528000 : Value).ownBlock ∧ k_ ≠ gb524 ∧ k_ ≠ gb525 ∧ k_ ≠ gb526 ∧ k_ ≠ gb527)) (by (with_reducible repeat (first | apply Kd.V_alloc | apply Kd.V_drewN | apply Kd.V_drew)); exact Kd.V_mono HO_525002.out (fun _ hk => ⟨⟨hk.1, ⟨hk.2.1, ⟨hk.2.2.2.1, ⟨hk.2.2.2.2.1, ⟨hk.2.2.2.2.2.1, hk.2.2.2.2.2.2⟩⟩⟩⟩⟩, hk.2.2.1⟩)) hg hat)
          replace HO_528000 := aM (Kd.N_afterv (ok := (fun k_ => ((P0_0_ k_ ∨ P0_1_ k_ ∨ P0_2_ k_) ∨ w.heap.size ≤ k_) ∧ k_ ≠ gb524 ∧ k_ ≠ gb525 ∧ k_ ≠ gb526 ∧ k_ ≠ gb527)) (by (with_reducible repeat (first | apply Kd.N_alloc | apply Kd.N_drewN | apply Kd.N_drew)); exact Kd.N_mono HO_528000.out (fun _ hk => ⟨⟨hk.1, ⟨hk.2.2.1, ⟨hk.2.2.2.1, ⟨hk.2.2.2.2.1, hk.2.2.2.2.2⟩⟩⟩⟩, hk.2.1⟩)) hg hat)
          replace BK524 := aM (blk_grown (kl BK524) hg (Kd.N_ne HO_528001.out BK524.out (by decide)))
          replace BK525 := aM (blk_grown (kl BK525) hg (Kd.N_ne HO_528001.out BK525.out (by decide)))
          replace BK526 := aM (blk_grown (kl BK526) hg (Kd.N_ne HO_528001.out BK526.out (by decide)))
          replace BK527 := aM (blk_grown (kl BK527) hg (Kd.N_ne HO_528001.out BK527.out (by decide)))
          replace HB := aM (hb)
          clear HL542_1 HL542_2 HO_528001 ho hb hg hat
          obtain ⟨Ao73, co73, eo73⟩ := Kd.N_slice HO545.out
          (first | subst eo73 | (injection eo73 with f1_ f2_ f3_; have f4_ := f1_.symm; have f5_ := f3_.symm; clear f1_ f2_ f3_; subst f4_; subst f5_))
          refine hK.out _ _ ?_
          clear hK K
          refine norm_ (a' := ?_) ?_ ?_
          rotate_left
          ·show Act.put _ (some 70) _ = _
           simp only [Act.put, sA, sB, sC, i64_w, i32_w]
           rfl
          refine pure_ (i := 9) (N := some 71) (v := ?_) (a' := ?_) (ba 11 1023) rfl rfl (any_of HT_.out (by kernel_rfl)) (fun _ _ _ h => h) (Or.inl ⟨by rfl, ?_⟩) ?_ ?_
          rotate_left
          ·intro w'
           go_simp
           with_reducible rfl
          rotate_left
          ·simp only [Act.put, sA, sB, sC, i64_w, i32_w]
           rfl
          refine last_ (i := 10) (N := none) (ba 11 2047) rfl rfl (one_of HT_.out (by kernel_rfl)) (by decide) (fun K hK => ?_)
          have hs74 : w72.cell? ⟨gb527, 1, none⟩ = some (u528001) := (kC BK527.out 1).trans rfl
          have hfs74 := kF BK527.out 1
          have hns74_0 := NB524_527.out
          have hns74_1 := NB525_527.out
          have hns74_2 := NB526_527.out
          have hms74_0 := NB527_524.out
          have hms74_1 := NB527_525.out
          have hms74_2 := NB527_526.out
          refine skip_ (w1 := ?_) (by rfl) rfl ?_ ?_
          rotate_left
          ·go_simp
           rfl
          refine hK.out _ _ ?_
          clear hK K
          refine done_ (done_of HT_.out (by kernel_rfl)) ?_
          try go_wp2
          go_roundg k2
          case measure => have := HK1.out; have := HK2.out; omega
          case rel => exact ⟨(wrap64 (x7_2 + 1)), (y543), (.slice Ao73 y543.length co73), (by first | rfl | (simp; done) | (simp [*]; done)), H', ⟨by have := HK1.out; have := HK2.out; omega⟩, ⟨by (with_reducible repeat (first | apply Kd.V_alloc | apply Kd.V_drewN | apply Kd.V_drew)); exact Kd.V_mono (Kd.V_far (p := ⟨gb527, 1, none⟩) (Kd.V_mono HO_525000.out (fun k_ hk => (⟨hk, hk.1.2.2.2.2.2⟩ : _ ∧ k_ ≠ gb527))) (fun _ hk => hk.2) (.slice Ao73 y543.length co73)) (fun _ hk => ⟨hk.1.1.1, ⟨hk.1.1.2.1, ⟨hk.1.2, ⟨hk.1.1.2.2.1, ⟨hk.1.1.2.2.2.1, ⟨hk.1.1.2.2.2.2.1, hk.1.1.2.2.2.2.2⟩⟩⟩⟩⟩⟩)⟩, ⟨by (with_reducible repeat (first | apply Kd.V_alloc | apply Kd.V_drewN | apply Kd.V_drew)); exact Kd.V_mono (Kd.V_far (p := ⟨gb527, 1, none⟩) (Kd.V_mono HO_525001.out (fun k_ hk => (⟨hk, hk.1.2.2.2.2.2⟩ : _ ∧ k_ ≠ gb527))) (fun _ hk => hk.2) (.slice Ao73 y543.length co73)) (fun _ hk => ⟨hk.1.1.1, ⟨hk.1.1.2.1, ⟨hk.1.2, ⟨hk.1.1.2.2.1, ⟨hk.1.1.2.2.2.1, ⟨hk.1.1.2.2.2.2.1, hk.1.1.2.2.2.2.2⟩⟩⟩⟩⟩⟩)⟩, ⟨by (with_reducible repeat (first | apply Kd.V_alloc | apply Kd.V_drewN | apply Kd.V_drew)); exact Kd.V_mono (Kd.V_far (p := ⟨gb527, 1, none⟩) (Kd.V_mono HO_525002.out (fun k_ hk => (⟨hk, hk.1.2.2.2.2.2⟩ : _ ∧ k_ ≠ gb527))) (fun _ hk => hk.2) (.slice Ao73 y543.length co73)) (fun _ hk => ⟨hk.1.1.1, ⟨hk.1.1.2.1, ⟨hk.1.2, ⟨hk.1.1.2.2.1, ⟨hk.1.1.2.2.2.1, ⟨hk.1.1.2.2.2.2.1, hk.1.1.2.2.2.2.2⟩⟩⟩⟩⟩⟩)⟩, ⟨by (with_reducible repeat (first | apply Kd.N_alloc | apply Kd.N_drewN | apply Kd.N_drew)); exact Kd.N_mono (Kd.N_far (p := ⟨gb527, 1, none⟩) (Kd.N_mono HO_528000.out (fun k_ hk => (⟨hk, hk.1.2.2.2.2⟩ : _ ∧ k_ ≠ gb527))) (fun _ hk => hk.2) (.slice Ao73 y543.length co73)) (fun _ hk => ⟨hk.1.1.1, ⟨hk.1.2, ⟨hk.1.1.2.1, ⟨hk.1.1.2.2.1, ⟨hk.1.1.2.2.2.1, hk.1.1.2.2.2.2⟩⟩⟩⟩⟩)⟩, ⟨by (with_reducible repeat (first | apply Kd.N_alloc | apply Kd.N_drewN | apply Kd.N_drew)); exact Kd.N_mono (Kd.N_far (p := ⟨gb527, 1, none⟩) (Kd.N_mono HO545.out (fun k_ hk => (⟨hk, hk.2.2.2.2.2⟩ : _ ∧ k_ ≠ gb527))) (fun _ hk => hk.2) (.slice Ao73 y543.length co73)) (fun _ hk => ⟨hk.1.1, ⟨hk.1.2.1, ⟨hk.1.2.2.1, ⟨hk.1.2.2.2.1, ⟨hk.1.2.2.2.2.1, hk.1.2.2.2.2.2⟩⟩⟩⟩⟩)⟩, ⟨by (with_reducible repeat (first | refine kN ?_ _ | refine kD ?_ | refine kA ?_ _)); refine blk_far ?_ NB524_527.out _; (with_reducible repeat (first | refine kN ?_ _ | refine kD ?_ | refine kA ?_ _)); exact BK524.out⟩, ⟨by (with_reducible repeat (first | refine kN ?_ _ | refine kD ?_ | refine kA ?_ _)); refine blk_far ?_ NB525_527.out _; (with_reducible repeat (first | refine kN ?_ _ | refine kD ?_ | refine kA ?_ _)); exact BK525.out⟩, ⟨by (with_reducible repeat (first | refine kN ?_ _ | refine kD ?_ | refine kA ?_ _)); refine blk_far ?_ NB526_527.out _; (with_reducible repeat (first | refine kN ?_ _ | refine kD ?_ | refine kA ?_ _)); exact BK526.out⟩, ⟨by (with_reducible repeat (first | refine kN ?_ _ | refine kD ?_ | refine kA ?_ _)); refine kP (cs := #[u528000, u528001, .slice none 0 0]) ?_ 1 _ rfl; (with_reducible repeat (first | refine kN ?_ _ | refine kD ?_ | refine kA ?_ _)); exact BK527.out⟩, ⟨bl⟩⟩
         ·rw [if_neg c65] at H
          exact absurd H (by simp)
        ·rw [if_neg c64] at H
         exact absurd H (by simp)
      ·rw [if_neg c45] at H
       have c45b0 : decide (x7_2 < (l0_1.length : Int)) = false := decide_eq_false c45
       clear c45
       have H' := aM H
       clear H
       have hnb75 := NB524_525.out
       have hnc75 := NB525_524.out
       have hnb76 := NB524_526.out
       have hnc76 := NB526_524.out
       have hnb77 := NB524_527.out
       have hnc77 := NB527_524.out
       obtain ⟨hcz78_0, hcz78_1, hcz78_2, hfz78_0, hfz78_1, hfz78_2⟩ := bc3 BK524
       go_wp2
       go_loopg [8] k2 (fun kq v8 w' => ∃ (x8_3 : Int) (x528002_3 : List (S51)) (u528002 : Value), v8 = .int .i64 x8_3 ∧ Aside0 (mapmakerlaw14_without.l2 kq x8_3 l0_0 l0_1 l0_2 a1_0 a1_1 x528000_1 x528001_2 x528002_3 = some (r1, r2, r3)) ∧ Aside0 (kq ≤ k2) ∧ Aside0 (Kd.V k39 39 w' w.heap.size (fun k_ => ((P0_0_ k_ ∨ P0_1_ k_ ∨ P0_2_ k_) ∨ w.heap.size ≤ k_) ∧ some k_ ≠ (u528000 : Value).ownBlock ∧ some k_ ≠ (u528001 : Value).ownBlock ∧ some k_ ≠ (u528002 : Value).ownBlock ∧ k_ ≠ gb524 ∧ k_ ≠ gb525 ∧ k_ ≠ gb526 ∧ k_ ≠ gb527) (.slice A0_0 l0_0.length c0_0) l0_0) ∧ Aside0 (Kd.V k45 45 w' w.heap.size (fun k_ => ((P0_0_ k_ ∨ P0_1_ k_ ∨ P0_2_ k_) ∨ w.heap.size ≤ k_) ∧ some k_ ≠ (u528000 : Value).ownBlock ∧ some k_ ≠ (u528001 : Value).ownBlock ∧ some k_ ≠ (u528002 : Value).ownBlock ∧ k_ ≠ gb524 ∧ k_ ≠ gb525 ∧ k_ ≠ gb526 ∧ k_ ≠ gb527) (.slice A0_1 l0_1.length c0_1) l0_1) ∧ Aside0 (Kd.V k51 51 w' w.heap.size (fun k_ => ((P0_0_ k_ ∨ P0_1_ k_ ∨ P0_2_ k_) ∨ w.heap.size ≤ k_) ∧ some k_ ≠ (u528000 : Value).ownBlock ∧ some k_ ≠ (u528001 : Value).ownBlock ∧ some k_ ≠ (u528002 : Value).ownBlock ∧ k_ ≠ gb524 ∧ k_ ≠ gb525 ∧ k_ ≠ gb526 ∧ k_ ≠ gb527) (.slice A0_2 l0_2.length c0_2) l0_2) ∧ Aside0 (Kd.N k39 39 w' w.heap.size (fun k_ => ((P0_0_ k_ ∨ P0_1_ k_ ∨ P0_2_ k_) ∨ w.heap.size ≤ k_) ∧ some k_ ≠ (u528001 : Value).ownBlock ∧ some k_ ≠ (u528002 : Value).ownBlock ∧ k_ ≠ gb524 ∧ k_ ≠ gb525 ∧ k_ ≠ gb526 ∧ k_ ≠ gb527) u528000 x528000_1) ∧ Aside0 (Kd.N k45 45 w' w.heap.size (fun k_ => ((P0_0_ k_ ∨ P0_1_ k_ ∨ P0_2_ k_) ∨ w.heap.size ≤ k_) ∧ some k_ ≠ (u528000 : Value).ownBlock ∧ some k_ ≠ (u528002 : Value).ownBlock ∧ k_ ≠ gb524 ∧ k_ ≠ gb525 ∧ k_ ≠ gb526 ∧ k_ ≠ gb527) u528001 x528001_2) ∧ Aside0 (Kd.N k51 51 w' w.heap.size (fun k_ => ((P0_0_ k_ ∨ P0_1_ k_ ∨ P0_2_ k_) ∨ w.heap.size ≤ k_) ∧ some k_ ≠ (u528000 : Value).ownBlock ∧ some k_ ≠ (u528001 : Value).ownBlock ∧ k_ ≠ gb524 ∧ k_ ≠ gb525 ∧ k_ ≠ gb526 ∧ k_ ≠ gb527) u528002 x528002_3) ∧ Aside0 (w'.heap[gb524]? = some (.cells #[(.slice A0_0 l0_0.length c0_0), (.slice A0_1 l0_1.length c0_1), (.slice A0_2 l0_2.length c0_2)] 26 (0, 0))) ∧ Aside0 (w'.heap[gb525]? = some (.cells #[.int .i64 a1_0, .int .i64 a1_1] 34 (0, 0))) ∧ Aside0 (w'.heap[gb526]? = some (.cells #[(.slice none 0 0), (.slice none 0 0), (.slice none 0 0)] 26 (0, 0))) ∧ Aside0 (w'.heap[gb527]? = some (.cells #[u528000, u528001, u528002] 26 (0, 0))) ∧ Aside0 (Below w.heap.size w w'))
       case atStart => exact ⟨(0), (([] : List (S51))), (.slice none 0 0), (by first | rfl | (simp; done) | (simp [*]; done)), H', ⟨Nat.le_refl _⟩, ⟨by (with_reducible repeat (first | apply Kd.V_alloc | apply Kd.V_drewN | apply Kd.V_drew)); exact Kd.V_mono HO_525000.out (fun _ hk => ⟨hk.1, ⟨hk.2.1, ⟨hk.2.2.1, ⟨(by simp [Value.ownBlock]), ⟨hk.2.2.2.1, ⟨hk.2.2.2.2.1, ⟨hk.2.2.2.2.2.1, hk.2.2.2.2.2.2⟩⟩⟩⟩⟩⟩⟩)⟩, ⟨by (with_reducible repeat (first | apply Kd.V_alloc | apply Kd.V_drewN | apply Kd.V_drew)); exact Kd.V_mono HO_525001.out (fun _ hk => ⟨hk.1, ⟨hk.2.1, ⟨hk.2.2.1, ⟨(by simp [Value.ownBlock]), ⟨hk.2.2.2.1, ⟨hk.2.2.2.2.1, ⟨hk.2.2.2.2.2.1, hk.2.2.2.2.2.2⟩⟩⟩⟩⟩⟩⟩)⟩, ⟨by (with_reducible repeat (first | apply Kd.V_alloc | apply Kd.V_drewN | apply Kd.V_drew)); exact Kd.V_mono HO_525002.out (fun _ hk => ⟨hk.1, ⟨hk.2.1, ⟨hk.2.2.1, ⟨(by simp [Value.ownBlock]), ⟨hk.2.2.2.1, ⟨hk.2.2.2.2.1, ⟨hk.2.2.2.2.2.1, hk.2.2.2.2.2.2⟩⟩⟩⟩⟩⟩⟩)⟩, ⟨by (with_reducible repeat (first | apply Kd.N_alloc | apply Kd.N_drewN | apply Kd.N_drew)); exact Kd.N_mono HO_528000.out (fun _ hk => ⟨hk.1, ⟨hk.2.1, ⟨(by simp [Value.ownBlock]), ⟨hk.2.2.1, ⟨hk.2.2.2.1, ⟨hk.2.2.2.2.1, hk.2.2.2.2.2⟩⟩⟩⟩⟩⟩)⟩, ⟨by (with_reducible repeat (first | apply Kd.N_alloc | apply Kd.N_drewN | apply Kd.N_drew)); exact Kd.N_mono HO_528001.out (fun _ hk => ⟨hk.1, ⟨hk.2.1, ⟨(by simp [Value.ownBlock]), ⟨hk.2.2.1, ⟨hk.2.2.2.1, ⟨hk.2.2.2.2.1, hk.2.2.2.2.2⟩⟩⟩⟩⟩⟩)⟩, ⟨by first | exact Kd.S_nil _ _ _ _ _ | exact Kd.N_nil _ _ _ _ _ | exact Kd.V_nil _ _ _ _ _ | exact Kd.Q_nil _ _ _ _ _ | exact Kd.R_nil _ _ _ _ _⟩, ⟨by (with_reducible repeat (first | refine kN ?_ _ | refine kD ?_ | refine kA ?_ _)); exact BK524.out⟩, ⟨by (with_reducible repeat (first | refine kN ?_ _ | refine kD ?_ | refine kA ?_ _)); exact BK525.out⟩, ⟨by (with_reducible repeat (first | refine kN ?_ _ | refine kD ?_ | refine kA ?_ _)); exact BK526.out⟩, ⟨by (with_reducible repeat (first | refine kN ?_ _ | refine kD ?_ | refine kA ?_ _)); exact BK527.out⟩, ⟨bl⟩⟩
       case round =>
        clear H'
        try clear p2
        try clear c4
        try clear c5
        try clear p5
        try clear q5
        try clear hx5
        try clear c6
        try clear p6
        try clear c7
        try clear c45
        try clear c45b0
        try clear c46
        try clear c46b0
        try clear c46b1
        try clear c47
        try clear c53
        try clear p53
        try clear q53
        try clear hx53
        try clear c54
        try clear p54
        try clear q54
        try clear hx54
        try clear c64
        try clear c64b0
        try clear p64
        try clear c65
        try clear c66
        try clear c67
        try clear c68
        try clear c75
        try clear c76
        try clear c77
        try clear hcz69_0 hcz69_1 hcz69_2 hfz69_0 hfz69_1 hfz69_2
        try clear hcz78_0 hcz78_1 hcz78_2 hfz78_0 hfz78_1 hfz78_2
        try clear hx538_0
        try clear hx538_1
        try clear hx538_2
        try clear hx542_0
        try clear hx542_1
        try clear hx542_2
        try clear p538
        try clear p542
        try clear q538
        try clear q542
        obtain ⟨x8_3, x528002_3, u528002, rfl, HA, HK3, HO_525000, HO_525001, HO_525002, HO_528000, HO_528001, HO_528002, BK524, BK525, BK526, BK527, HB⟩ := hrel
        cases gk with
        | zero => exact absurd HA.out (by simp [mapmakerlaw14_without.l2])
        | succ k3 =>
         have H := HA.out
         clear HA
         simp only [mapmakerlaw14_without.l2] at H
         by_cases c79 : x8_3 < (l0_2.length : Int)
         ·rw [if_pos c79] at H
          have c79b0 : decide (x8_3 < (l0_2.length : Int)) = true := decide_eq_true c79
          clear c79
          by_cases c80 : a1_0 = 3
          ·rw [if_pos c80] at H
           have c80b0 : (a1_0 == 3) = true := beq_iff_eq.mpr c80
           have c80b1 : (a1_0 != 3) = false := bne_eq_false_iff_eq.mpr c80
           clear c80
           by_cases c81 : 0 ≤ x8_3
           ·rw [if_pos c81] at H
            have c81b0 : decide (0 ≤ x8_3) = true := decide_eq_true c81
            clear c81
            by_cases c82 : ((rd_T51 l0_2 x8_3).f0) = a1_1
            ·rw [if_pos c82] at H
             have c82b0 : (((rd_T51 l0_2 x8_3).f0) == a1_1) = true := beq_iff_eq.mpr c82
             have c82b1 : (((rd_T51 l0_2 x8_3).f0) != a1_1) = false := bne_eq_false_iff_eq.mpr c82
             clear c82
             have H' := aM H
             clear H
             have hnb83 := NB524_525.out
             have hnc83 := NB525_524.out
             have hnb84 := NB524_526.out
             have hnc84 := NB526_524.out
             have hnb85 := NB524_527.out
             have hnc85 := NB527_524.out
             obtain ⟨hcz86_0, hcz86_1, hcz86_2, hfz86_0, hfz86_1, hfz86_2⟩ := bc3 BK524
             try go_wp2
             replace HO_525000 := aM (Kd.V_drew HO_525000.out)
             replace HO_525001 := aM (Kd.V_drew HO_525001.out)
             replace HO_525002 := aM (Kd.V_drew HO_525002.out)
             replace HO_528000 := aM (Kd.N_drew HO_528000.out)
             replace HO_528001 := aM (Kd.N_drew HO_528001.out)
             replace HO_528002 := aM (Kd.N_drew HO_528002.out)
             replace BK524 := aM (kD BK524.out)
             replace BK525 := aM (kD BK525.out)
             replace BK526 := aM (kD BK526.out)
             replace BK527 := aM (kD BK527.out)
             replace HB := aM (bD HB.out)
             have p546 : 0 ≤ (x8_3 : Int) := oT
             have q546 : x8_3 < (l0_2.length : Int) := oT
             obtain ⟨ad546, A546_1, c546_1, A546_2, c546_2, e546, hx546_0, hx546_1, hx546_2, hl546_1, hi546_1, hl546_2, hi546_2⟩ := at_T51 (Kd.V_reads' HO_525002.out).2.2 x8_3 p546 q546
             cases e546
             obtain ⟨ce546, hce546, hMe546, hcc546⟩ := Kd.V_get HO_525002.out z51 x8_3 p546 (by first | exact q546 | exact of_decide_eq_true (by first | (with_reducible assumption) | assumption) | (have e_ := (Kd.V_reads' HO_525002.out).1; omega))
             obtain ⟨ua546_1, uc546_1, ua546_2, uc546_2, rfl, ul546_1, ge546_1, ul546_2, ge546_2⟩ := k51_openF hMe546
             have hv546_1 := hcc546 1 _ rfl
             rw [add_field _ _ 1 (by omega)] at hv546_1
             replace hv546_1 := Option.some.inj (hv546_1.symm.trans hx546_1)
             injection hv546_1 with hva_ hvn_ hvc_
             rw [hva_] at ge546_1
             rw [hvc_] at ul546_1
             have HL546_1 := aM (show Kd.V k67 67 _ w.heap.size _ _ ((rd_T51 l0_2 x8_3).f1) from Kd.V_mk ul546_1 ge546_1)
             clear hva_ hvn_ hvc_ ge546_1 ul546_1
             have hv546_2 := hcc546 2 _ rfl
             rw [add_field _ _ 2 (by omega)] at hv546_2
             replace hv546_2 := Option.some.inj (hv546_2.symm.trans hx546_2)
             injection hv546_2 with hva_ hvn_ hvc_
             rw [hva_] at ge546_2
             rw [hvc_] at ul546_2
             have HL546_2 := aM (show Kd.V k70 70 _ w.heap.size _ _ ((rd_T51 l0_2 x8_3).f2) from Kd.V_mk ul546_2 ge546_2)
             clear hva_ hvn_ hvc_ ge546_2 ul546_2 hcc546 hce546
             have HR546_1 := aM hi546_1
             have HC546_1 := aM hl546_1
             clear hi546_1 hl546_1
             have HR546_2 := aM hi546_2
             have HC546_2 := aM hl546_2
             clear hi546_2 hl546_2
             replace p546 := eq_true p546
             replace q546 := eq_true q546
             refine start_ (n := 14) (S := fun w' => w'.cell? ⟨gb525, 0, none⟩ = some (.int .i64 a1_0) ∧ w'.cell? ⟨gb525, 1, none⟩ = some (.int .i64 a1_1) ∧ w'.cell? ⟨gb524, 0, none⟩ = some (.slice A0_0 l0_0.length c0_0) ∧ w'.cell? ⟨gb524, 1, none⟩ = some (.slice A0_1 l0_1.length c0_1) ∧ w'.cell? ⟨gb524, 2, none⟩ = some (.slice (some ad546) l0_2.length c0_2) ∧ w'.cell? (ad546.add ((x8_3).toNat * 3)) = some (.int .i64 ((rd_T51 l0_2 x8_3).f0)) ∧ w'.cell? ⟨(ad546.add ((x8_3).toNat * 3)).block, (ad546.add ((x8_3).toNat * 3)).off + 1, none⟩ = some (.slice A546_1 ((rd_T51 l0_2 x8_3).f1).length c546_1) ∧ w'.cell? ⟨(ad546.add ((x8_3).toNat * 3)).block, (ad546.add ((x8_3).toNat * 3)).off + 2, none⟩ = some (.slice A546_2 ((rd_T51 l0_2 x8_3).f2).length c546_2)) (ds := []) #[false, false, false, false, false, false, false, false, false, false, false, false, false, false] (by kernel_rfl) rfl rfl ⟨(kC BK525.out 0).trans rfl, (kC BK525.out 1).trans rfl, (kC BK524.out 0).trans rfl, (kC BK524.out 1).trans rfl, (kC BK524.out 2).trans rfl, hx546_0, hx546_1, hx546_2⟩ (fun hHeld => ?_); refine with_tabW mapmakerlaw14_without.tab15 mapmakerlaw14_without.bits15 (fun HT_ HW_ => ?_)
             generalize wr.drew = w87 at HO_525000 HO_525001 HO_525002 HO_528000 HO_528001 HO_528002 BK524 BK525 BK526 BK527 HB HL546_1 HL546_2 HR546_1 HR546_2 hx546_0 hx546_1 hx546_2 hHeld ⊢
             refine pure_ (i := 0) (N := some 79) (v := ?_) (a' := ?_) (ba 14 1) rfl rfl (any_of HT_.out (by kernel_rfl)) (fun _ _ _ h => h) (Or.inl ⟨by rfl, ?_⟩) ?_ ?_
             rotate_left
             ·intro w'
              go_simp
              with_reducible rfl
             rotate_left
             ·simp only [Act.put, sA, sB, sC, i64_w, i32_w]
              rfl
             refine take_ (i := 1) (N := some 80) (v := ?_) (a' := ?_) (ba 14 3) rfl rfl (take_ofW HT_.out HW_.out (by kernel_rfl)) (fun _ _ _ h => h) (Or.inl ⟨by rfl, ?_⟩) hHeld ?_ ?_
             rotate_left
             ·rintro w' ⟨s0, s1, s2, s3, s4, s5, s6, s7⟩
              go_simp
              with_reducible rfl
             rotate_left
             ·simp only [Act.put, sA, sB, sC, i64_w, i32_w]
              rfl
             refine pure_ (i := 2) (N := some 81) (v := ?_) (a' := ?_) (ba 14 7) rfl rfl (any_of HT_.out (by kernel_rfl)) (fun _ _ _ h => h) (Or.inl ⟨by rfl, ?_⟩) ?_ ?_
             rotate_left
             ·intro w'
              go_simp
              with_reducible rfl
             rotate_left
             ·simp only [Act.put, sA, sB, sC, i64_w, i32_w]
              rfl
             refine pure_ (i := 3) (N := some 82) (v := ?_) (a' := ?_) (ba 14 15) rfl rfl (any_of HT_.out (by kernel_rfl)) (fun _ _ _ h => h) (Or.inl ⟨by rfl, ?_⟩) ?_ ?_
             rotate_left
             ·intro w'
              go_simp
              with_reducible rfl
             rotate_left
             ·simp only [Act.put, sA, sB, sC, i64_w, i32_w]
              rfl
             refine pure_ (i := 4) (N := some 83) (v := ?_) (a' := ?_) (ba 14 31) rfl rfl (any_of HT_.out (by kernel_rfl)) (fun _ _ _ h => h) (Or.inl ⟨by rfl, ?_⟩) ?_ ?_
             rotate_left
             ·intro w'
              go_simp
              with_reducible rfl
             rotate_left
             ·simp only [Act.put, sA, sB, sC, i64_w, i32_w]
              rfl
             refine pure_ (i := 6) (N := some 85) (v := ?_) (a' := ?_) (ba 14 95) rfl rfl (any_of HT_.out (by kernel_rfl)) (fun _ _ _ h => h) (Or.inl ⟨by rfl, ?_⟩) ?_ ?_
             rotate_left
             ·intro w'
              go_simp
              with_reducible rfl
             rotate_left
             ·simp only [Act.put, sA, sB, sC, i64_w, i32_w]
              rfl
             refine pure_ (i := 10) (N := some 89) (v := ?_) (a' := ?_) (ba 14 1119) rfl rfl (any_of HT_.out (by kernel_rfl)) (fun _ _ _ h => h) (Or.inl ⟨by rfl, ?_⟩) ?_ ?_
             rotate_left
             ·intro w'
              go_simp
              with_reducible rfl
             rotate_left
             ·simp only [Act.put, sA, sB, sC, i64_w, i32_w]
              rfl
             refine take_ (i := 5) (N := some 84) (v := ?_) (a' := ?_) (ba 14 1151) rfl rfl (take_ofW HT_.out HW_.out (by kernel_rfl)) (fun _ _ _ h => h) (Or.inl ⟨by rfl, ?_⟩) hHeld ?_ ?_
             rotate_left
             ·rintro w' ⟨s0, s1, s2, s3, s4, s5, s6, s7⟩
              go_simp
              with_reducible rfl
             rotate_left
             ·simp only [Act.put, sA, sB, sC, i64_w, i32_w]
              rfl
             refine pure_ (i := 7) (N := some 86) (v := ?_) (a' := ?_) (ba 14 1279) rfl rfl (any_of HT_.out (by kernel_rfl)) (fun _ _ _ h => h) (Or.inl ⟨by rfl, ?_⟩) ?_ ?_
             rotate_left
             ·intro w'
              go_simp
              with_reducible rfl
             rotate_left
             ·simp only [Act.put, sA, sB, sC, i64_w, i32_w]
              rfl
             refine pure_ (i := 8) (N := some 87) (v := ?_) (a' := ?_) (ba 14 1535) rfl rfl (any_of HT_.out (by kernel_rfl)) (fun _ _ _ h => h) (Or.inl ⟨by rfl, ?_⟩) ?_ ?_
             rotate_left
             ·intro w'
              go_simp
              with_reducible rfl
             rotate_left
             ·simp only [Act.put, sA, sB, sC, i64_w, i32_w]
              rfl
             refine take_ (i := 9) (N := some 88) (v := ?_) (a' := ?_) (ba 14 2047) rfl rfl (take_ofW HT_.out HW_.out (by kernel_rfl)) (fun _ _ _ h => h) (Or.inl ⟨by rfl, ?_⟩) hHeld ?_ ?_
             rotate_left
             ·rintro w' ⟨s0, s1, s2, s3, s4, s5, s6, s7⟩
              go_simp
              with_reducible rfl
             rotate_left
             ·simp only [Act.put, sA, sB, sC, i64_w, i32_w]
              rfl
             refine take_ (i := 11) (N := some 90) (v := ?_) (a' := ?_) (ba 14 4095) rfl rfl (take_ofW HT_.out HW_.out (by kernel_rfl)) (fun _ _ _ h => h) (Or.inl ⟨by rfl, ?_⟩) hHeld ?_ ?_
             rotate_left
             ·rintro w' ⟨s0, s1, s2, s3, s4, s5, s6, s7⟩
              go_simp
              with_reducible rfl
             rotate_left
             ·simp only [Act.put, sA, sB, sC, i64_w, i32_w]
              rfl
             refine pure_ (i := 12) (N := some 91) (v := ?_) (a' := ?_) (ba 14 8191) rfl rfl (any_of HT_.out (by kernel_rfl)) (fun _ _ _ h => h) (Or.inl ⟨by rfl, ?_⟩) ?_ ?_
             rotate_left
             ·intro w'
              go_simp
              with_reducible rfl
             rotate_left
             ·simp only [Act.put, sA, sB, sC, i64_w, i32_w]
              rfl
             refine pure_ (i := 13) (N := some 92) (v := ?_) (a' := ?_) (ba 14 16383) rfl rfl (any_of HT_.out (by kernel_rfl)) (fun _ _ _ h => h) (Or.inl ⟨by rfl, ?_⟩) ?_ ?_
             rotate_left
             ·intro w'
              go_simp
              with_reducible rfl
             rotate_left
             ·simp only [Act.put, sA, sB, sC, i64_w, i32_w]
              rfl
             refine done_ (done_of HT_.out (by kernel_rfl)) ?_
             try go_wp2
             go_roundg k3
             case measure => have := HK1.out; have := HK2.out; have := HK3.out; omega
             case rel => exact ⟨(wrap64 (x8_3 + 1)), (x528002_3), (u528002), (by first | rfl | (simp; done) | (simp [*]; done)), H', ⟨by have := HK1.out; have := HK2.out; have := HK3.out; omega⟩, ⟨by (with_reducible repeat (first | apply Kd.V_alloc | apply Kd.V_drewN | apply Kd.V_drew)); exact HO_525000.out⟩, ⟨by (with_reducible repeat (first | apply Kd.V_alloc | apply Kd.V_drewN | apply Kd.V_drew)); exact HO_525001.out⟩, ⟨by (with_reducible repeat (first | apply Kd.V_alloc | apply Kd.V_drewN | apply Kd.V_drew)); exact HO_525002.out⟩, ⟨by (with_reducible repeat (first | apply Kd.N_alloc | apply Kd.N_drewN | apply Kd.N_drew)); exact HO_528000.out⟩, ⟨by (with_reducible repeat (first | apply Kd.N_alloc | apply Kd.N_drewN | apply Kd.N_drew)); exact HO_528001.out⟩, ⟨by (with_reducible repeat (first | apply Kd.N_alloc | apply Kd.N_drewN | apply Kd.N_drew)); exact HO_528002.out⟩, ⟨by (with_reducible repeat (first | refine kN ?_ _ | refine kD ?_ | refine kA ?_ _)); exact BK524.out⟩, ⟨by (with_reducible repeat (first | refine kN ?_ _ | refine kD ?_ | refine kA ?_ _)); exact BK525.out⟩, ⟨by (with_reducible repeat (first | refine kN ?_ _ | refine kD ?_ | refine kA ?_ _)); exact BK526.out⟩, ⟨by (with_reducible repeat (first | refine kN ?_ _ | refine kD ?_ | refine kA ?_ _)); exact BK527.out⟩, ⟨bl⟩⟩
            ·rw [if_neg c82] at H
             have c82b0 : (((rd_T51 l0_2 x8_3).f0) == a1_1) = false := beq_eq_false_iff_ne.mpr c82
             have c82b1 : (((rd_T51 l0_2 x8_3).f0) != a1_1) = true := bne_iff_ne.mpr c82
             by_cases c88 : x528002_3.length < 2513169434916
             ·rw [if_pos c88] at H
              have LMc88 := aM c88
              clear c88
              obtain ⟨y548, hy548⟩ : ∃ y_ : List (S51), y_ = (x528002_3 ++ [(⟨(rd_T51 l0_2 x8_3).f0, (rd_T51 l0_2 x8_3).f1, (rd_T51 l0_2 x8_3).f2⟩ : S51)]) := ⟨_, rfl⟩
              replace H : (mapmakerlaw14_without.l2 k3 (wrap64 (x8_3 + 1)) l0_0 l0_1 l0_2 a1_0 a1_1 x528000_1 x528001_2 y548) = some (r1, r2, r3) := by first | (rw [hy548]; with_reducible exact H) | (have H2_ := (Option.bind_some _ _).symm.trans H; rw [hy548]; with_reducible exact H2_) | (have H2_ := (Option.bind_some _ _).symm.trans H; with_reducible exact H2_) | with_reducible exact H | (rw [hy548]; exact H) | exact H
              have Ny548 := aM hy548
              clear hy548
              have H' := aM H
              clear H
              have hnb89 := NB524_525.out
              have hnc89 := NB525_524.out
              have hnb90 := NB524_526.out
              have hnc90 := NB526_524.out
              have hnb91 := NB524_527.out
              have hnc91 := NB527_524.out
              obtain ⟨hcz92_0, hcz92_1, hcz92_2, hfz92_0, hfz92_1, hfz92_2⟩ := bc3 BK524
              try go_wp2
              replace HO_525000 := aM (Kd.V_drew HO_525000.out)
              replace HO_525001 := aM (Kd.V_drew HO_525001.out)
              replace HO_525002 := aM (Kd.V_drew HO_525002.out)
              replace HO_528000 := aM (Kd.N_drew HO_528000.out)
              replace HO_528001 := aM (Kd.N_drew HO_528001.out)
              replace HO_528002 := aM (Kd.N_drew HO_528002.out)
              replace BK524 := aM (kD BK524.out)
              replace BK525 := aM (kD BK525.out)
              replace BK526 := aM (kD BK526.out)
              replace BK527 := aM (kD BK527.out)
              replace HB := aM (bD HB.out)
              have p546 : 0 ≤ (x8_3 : Int) := oT
              have q546 : x8_3 < (l0_2.length : Int) := oT
              obtain ⟨ad546, A546_1, c546_1, A546_2, c546_2, e546, hx546_0, hx546_1, hx546_2, hl546_1, hi546_1, hl546_2, hi546_2⟩ := at_T51 (Kd.V_reads' HO_525002.out).2.2 x8_3 p546 q546
              cases e546
              obtain ⟨ce546, hce546, hMe546, hcc546⟩ := Kd.V_get HO_525002.out z51 x8_3 p546 (by first | exact q546 | exact of_decide_eq_true (by first | (with_reducible assumption) | assumption) | (have e_ := (Kd.V_reads' HO_525002.out).1; omega))
              obtain ⟨ua546_1, uc546_1, ua546_2, uc546_2, rfl, ul546_1, ge546_1, ul546_2, ge546_2⟩ := k51_openF hMe546
              have hv546_1 := hcc546 1 _ rfl
              rw [add_field _ _ 1 (by omega)] at hv546_1
              replace hv546_1 := Option.some.inj (hv546_1.symm.trans hx546_1)
              injection hv546_1 with hva_ hvn_ hvc_
              rw [hva_] at ge546_1
              rw [hvc_] at ul546_1
              have HL546_1 := aM (show Kd.V k67 67 _ w.heap.size _ _ ((rd_T51 l0_2 x8_3).f1) from Kd.V_mk ul546_1 ge546_1)
              clear hva_ hvn_ hvc_ ge546_1 ul546_1
              have hv546_2 := hcc546 2 _ rfl
              rw [add_field _ _ 2 (by omega)] at hv546_2
              replace hv546_2 := Option.some.inj (hv546_2.symm.trans hx546_2)
              injection hv546_2 with hva_ hvn_ hvc_
              rw [hva_] at ge546_2
              rw [hvc_] at ul546_2
              have HL546_2 := aM (show Kd.V k70 70 _ w.heap.size _ _ ((rd_T51 l0_2 x8_3).f2) from Kd.V_mk ul546_2 ge546_2)
              clear hva_ hvn_ hvc_ ge546_2 ul546_2 hcc546 hce546
              have HR546_1 := aM hi546_1
              have HC546_1 := aM hl546_1
              clear hi546_1 hl546_1
              have HR546_2 := aM hi546_2
              have HC546_2 := aM hl546_2
              clear hi546_2 hl546_2
              replace p546 := eq_true p546
              replace q546 := eq_true q546
              refine start_ (n := 14) (S := fun w' => w'.cell? ⟨gb525, 0, none⟩ = some (.int .i64 a1_0) ∧ w'.cell? ⟨gb525, 1, none⟩ = some (.int .i64 a1_1) ∧ w'.cell? ⟨gb524, 0, none⟩ = some (.slice A0_0 l0_0.length c0_0) ∧ w'.cell? ⟨gb524, 1, none⟩ = some (.slice A0_1 l0_1.length c0_1) ∧ w'.cell? ⟨gb524, 2, none⟩ = some (.slice (some ad546) l0_2.length c0_2) ∧ w'.cell? (ad546.add ((x8_3).toNat * 3)) = some (.int .i64 ((rd_T51 l0_2 x8_3).f0)) ∧ w'.cell? ⟨(ad546.add ((x8_3).toNat * 3)).block, (ad546.add ((x8_3).toNat * 3)).off + 1, none⟩ = some (.slice A546_1 ((rd_T51 l0_2 x8_3).f1).length c546_1) ∧ w'.cell? ⟨(ad546.add ((x8_3).toNat * 3)).block, (ad546.add ((x8_3).toNat * 3)).off + 2, none⟩ = some (.slice A546_2 ((rd_T51 l0_2 x8_3).f2).length c546_2)) (ds := []) #[false, false, false, false, false, false, false, false, false, false, false, false, false, false] (by kernel_rfl) rfl rfl ⟨(kC BK525.out 0).trans rfl, (kC BK525.out 1).trans rfl, (kC BK524.out 0).trans rfl, (kC BK524.out 1).trans rfl, (kC BK524.out 2).trans rfl, hx546_0, hx546_1, hx546_2⟩ (fun hHeld => ?_); refine with_tabW mapmakerlaw14_without.tab15 mapmakerlaw14_without.bits15 (fun HT_ HW_ => ?_)
              generalize wr.drew = w93 at HO_525000 HO_525001 HO_525002 HO_528000 HO_528001 HO_528002 BK524 BK525 BK526 BK527 HB HL546_1 HL546_2 HR546_1 HR546_2 hx546_0 hx546_1 hx546_2 hHeld ⊢
              refine pure_ (i := 0) (N := some 79) (v := ?_) (a' := ?_) (ba 14 1) rfl rfl (any_of HT_.out (by kernel_rfl)) (fun _ _ _ h => h) (Or.inl ⟨by rfl, ?_⟩) ?_ ?_
              rotate_left
              ·intro w'
               go_simp
               with_reducible rfl
              rotate_left
              ·simp only [Act.put, sA, sB, sC, i64_w, i32_w]
               rfl
              refine take_ (i := 1) (N := some 80) (v := ?_) (a' := ?_) (ba 14 3) rfl rfl (take_ofW HT_.out HW_.out (by kernel_rfl)) (fun _ _ _ h => h) (Or.inl ⟨by rfl, ?_⟩) hHeld ?_ ?_
              rotate_left
              ·rintro w' ⟨s0, s1, s2, s3, s4, s5, s6, s7⟩
               go_simp
               with_reducible rfl
              rotate_left
              ·simp only [Act.put, sA, sB, sC, i64_w, i32_w]
               rfl
              refine pure_ (i := 2) (N := some 81) (v := ?_) (a' := ?_) (ba 14 7) rfl rfl (any_of HT_.out (by kernel_rfl)) (fun _ _ _ h => h) (Or.inl ⟨by rfl, ?_⟩) ?_ ?_
              rotate_left
              ·intro w'
               go_simp
               with_reducible rfl
              rotate_left
              ·simp only [Act.put, sA, sB, sC, i64_w, i32_w]
               rfl
              refine pure_ (i := 3) (N := some 82) (v := ?_) (a' := ?_) (ba 14 15) rfl rfl (any_of HT_.out (by kernel_rfl)) (fun _ _ _ h => h) (Or.inl ⟨by rfl, ?_⟩) ?_ ?_
              rotate_left
              ·intro w'
               go_simp
               with_reducible rfl
              rotate_left
              ·simp only [Act.put, sA, sB, sC, i64_w, i32_w]
               rfl
              refine pure_ (i := 4) (N := some 83) (v := ?_) (a' := ?_) (ba 14 31) rfl rfl (any_of HT_.out (by kernel_rfl)) (fun _ _ _ h => h) (Or.inl ⟨by rfl, ?_⟩) ?_ ?_
              rotate_left
              ·intro w'
               go_simp
               with_reducible rfl
              rotate_left
              ·simp only [Act.put, sA, sB, sC, i64_w, i32_w]
               rfl
              refine pure_ (i := 6) (N := some 85) (v := ?_) (a' := ?_) (ba 14 95) rfl rfl (any_of HT_.out (by kernel_rfl)) (fun _ _ _ h => h) (Or.inl ⟨by rfl, ?_⟩) ?_ ?_
              rotate_left
              ·intro w'
               go_simp
               with_reducible rfl
              rotate_left
              ·simp only [Act.put, sA, sB, sC, i64_w, i32_w]
               rfl
              refine pure_ (i := 10) (N := some 89) (v := ?_) (a' := ?_) (ba 14 1119) rfl rfl (any_of HT_.out (by kernel_rfl)) (fun _ _ _ h => h) (Or.inl ⟨by rfl, ?_⟩) ?_ ?_
              rotate_left
              ·intro w'
               go_simp
               with_reducible rfl
              rotate_left
              ·simp only [Act.put, sA, sB, sC, i64_w, i32_w]
               rfl
              refine take_ (i := 5) (N := some 84) (v := ?_) (a' := ?_) (ba 14 1151) rfl rfl (take_ofW HT_.out HW_.out (by kernel_rfl)) (fun _ _ _ h => h) (Or.inl ⟨by rfl, ?_⟩) hHeld ?_ ?_
              rotate_left
              ·rintro w' ⟨s0, s1, s2, s3, s4, s5, s6, s7⟩
               go_simp
               with_reducible rfl
              rotate_left
              ·simp only [Act.put, sA, sB, sC, i64_w, i32_w]
               rfl
              refine pure_ (i := 7) (N := some 86) (v := ?_) (a' := ?_) (ba 14 1279) rfl rfl (any_of HT_.out (by kernel_rfl)) (fun _ _ _ h => h) (Or.inl ⟨by rfl, ?_⟩) ?_ ?_
              rotate_left
              ·intro w'
               go_simp
               with_reducible rfl
              rotate_left
              ·simp only [Act.put, sA, sB, sC, i64_w, i32_w]
               rfl
              refine pure_ (i := 8) (N := some 87) (v := ?_) (a' := ?_) (ba 14 1535) rfl rfl (any_of HT_.out (by kernel_rfl)) (fun _ _ _ h => h) (Or.inl ⟨by rfl, ?_⟩) ?_ ?_
              rotate_left
              ·intro w'
               go_simp
               with_reducible rfl
              rotate_left
              ·simp only [Act.put, sA, sB, sC, i64_w, i32_w]
               rfl
              refine take_ (i := 9) (N := some 88) (v := ?_) (a' := ?_) (ba 14 2047) rfl rfl (take_ofW HT_.out HW_.out (by kernel_rfl)) (fun _ _ _ h => h) (Or.inl ⟨by rfl, ?_⟩) hHeld ?_ ?_
              rotate_left
              ·rintro w' ⟨s0, s1, s2, s3, s4, s5, s6, s7⟩
               go_simp
               with_reducible rfl
              rotate_left
              ·simp only [Act.put, sA, sB, sC, i64_w, i32_w]
               rfl
              refine take_ (i := 11) (N := some 90) (v := ?_) (a' := ?_) (ba 14 4095) rfl rfl (take_ofW HT_.out HW_.out (by kernel_rfl)) (fun _ _ _ h => h) (Or.inl ⟨by rfl, ?_⟩) hHeld ?_ ?_
              rotate_left
              ·rintro w' ⟨s0, s1, s2, s3, s4, s5, s6, s7⟩
               go_simp
               with_reducible rfl
              rotate_left
              ·simp only [Act.put, sA, sB, sC, i64_w, i32_w]
               rfl
              refine pure_ (i := 12) (N := some 91) (v := ?_) (a' := ?_) (ba 14 8191) rfl rfl (any_of HT_.out (by kernel_rfl)) (fun _ _ _ h => h) (Or.inl ⟨by rfl, ?_⟩) ?_ ?_
              rotate_left
              ·intro w'
               go_simp
               with_reducible rfl
              rotate_left
              ·simp only [Act.put, sA, sB, sC, i64_w, i32_w]
               rfl
              refine pure_ (i := 13) (N := some 92) (v := ?_) (a' := ?_) (ba 14 16383) rfl rfl (any_of HT_.out (by kernel_rfl)) (fun _ _ _ h => h) (Or.inl ⟨by rfl, ?_⟩) ?_ ?_
              rotate_left
              ·intro w'
               go_simp
               with_reducible rfl
              rotate_left
              ·simp only [Act.put, sA, sB, sC, i64_w, i32_w]
               rfl
              refine done_ (done_of HT_.out (by kernel_rfl)) ?_
              try go_wp2
              replace HO_525000 := aM (Kd.V_drew HO_525000.out)
              replace HO_525001 := aM (Kd.V_drew HO_525001.out)
              replace HO_525002 := aM (Kd.V_drew HO_525002.out)
              replace HO_528000 := aM (Kd.N_drew HO_528000.out)
              replace HO_528001 := aM (Kd.N_drew HO_528001.out)
              replace HO_528002 := aM (Kd.N_drew HO_528002.out)
              replace BK524 := aM (kD BK524.out)
              replace BK525 := aM (kD BK525.out)
              replace BK526 := aM (kD BK526.out)
              replace BK527 := aM (kD BK527.out)
              replace HB := aM (bD HB.out)
              clear HL546_1 HL546_2 HR546_1 HR546_2
              have p547 : 0 ≤ (x8_3 : Int) := oT
              have q547 : x8_3 < (l0_2.length : Int) := oT
              obtain ⟨ad547, A547_1, c547_1, A547_2, c547_2, e547, hx547_0, hx547_1, hx547_2, hl547_1, hi547_1, hl547_2, hi547_2⟩ := at_T51 (Kd.V_reads' HO_525002.out).2.2 x8_3 p547 q547
              obtain rfl : ad546 = ad547 := (by injection e547)
              obtain ⟨ce547, hce547, hMe547, hcc547⟩ := Kd.V_get HO_525002.out z51 x8_3 p547 (by first | exact q547 | exact of_decide_eq_true (by first | (with_reducible assumption) | assumption) | (have e_ := (Kd.V_reads' HO_525002.out).1; omega))
              obtain ⟨ua547_1, uc547_1, ua547_2, uc547_2, rfl, ul547_1, ge547_1, ul547_2, ge547_2⟩ := k51_openF hMe547
              have hv547_1 := hcc547 1 _ rfl
              rw [add_field _ _ 1 (by omega)] at hv547_1
              replace hv547_1 := Option.some.inj (hv547_1.symm.trans hx547_1)
              injection hv547_1 with hva_ hvn_ hvc_
              rw [hva_] at ge547_1
              rw [hvc_] at ul547_1
              have HL547_1 := aM (show Kd.V k67 67 _ w.heap.size _ _ ((rd_T51 l0_2 x8_3).f1) from Kd.V_mk ul547_1 ge547_1)
              clear hva_ hvn_ hvc_ ge547_1 ul547_1
              have hv547_2 := hcc547 2 _ rfl
              rw [add_field _ _ 2 (by omega)] at hv547_2
              replace hv547_2 := Option.some.inj (hv547_2.symm.trans hx547_2)
              injection hv547_2 with hva_ hvn_ hvc_
              rw [hva_] at ge547_2
              rw [hvc_] at ul547_2
              have HL547_2 := aM (show Kd.V k70 70 _ w.heap.size _ _ ((rd_T51 l0_2 x8_3).f2) from Kd.V_mk ul547_2 ge547_2)
              clear hva_ hvn_ hvc_ ge547_2 ul547_2 hcc547 hce547
              have HR547_1 := aM hi547_1
              have HC547_1 := aM hl547_1
              clear hi547_1 hl547_1
              have HR547_2 := aM hi547_2
              have HC547_2 := aM hl547_2
              clear hi547_2 hl547_2
              replace p547 := eq_true p547
              replace q547 := eq_true q547
              refine start_ (n := 11) (S := fun w' => w'.cell? ⟨gb527, 0, none⟩ = some (u528000) ∧ w'.cell? ⟨gb527, 1, none⟩ = some (u528001) ∧ w'.cell? ⟨gb527, 2, none⟩ = some (u528002) ∧ w'.cell? ⟨gb524, 0, none⟩ = some (.slice A0_0 l0_0.length c0_0) ∧ w'.cell? ⟨gb524, 1, none⟩ = some (.slice A0_1 l0_1.length c0_1) ∧ w'.cell? ⟨gb524, 2, none⟩ = some (.slice (some ad546) l0_2.length c0_2) ∧ w'.cell? (ad546.add ((x8_3).toNat * 3)) = some (.int .i64 ((rd_T51 l0_2 x8_3).f0)) ∧ w'.cell? ⟨(ad546.add ((x8_3).toNat * 3)).block, (ad546.add ((x8_3).toNat * 3)).off + 1, none⟩ = some (.slice A547_1 ((rd_T51 l0_2 x8_3).f1).length c547_1) ∧ w'.cell? ⟨(ad546.add ((x8_3).toNat * 3)).block, (ad546.add ((x8_3).toNat * 3)).off + 2, none⟩ = some (.slice A547_2 ((rd_T51 l0_2 x8_3).f2).length c547_2)) (ds := [8, 10]) #[false, false, false, false, false, false, false, false, false, false, false] (by kernel_rfl) rfl rfl ⟨(kC BK527.out 0).trans rfl, (kC BK527.out 1).trans rfl, (kC BK527.out 2).trans rfl, (kC BK524.out 0).trans rfl, (kC BK524.out 1).trans rfl, (kC BK524.out 2).trans rfl, hx547_0, hx547_1, hx547_2⟩ (fun hHeld => ?_); refine with_tabW mapmakerlaw14_without.tab16 mapmakerlaw14_without.bits16 (fun HT_ HW_ => ?_)
              generalize w93.drew = w94 at HO_525000 HO_525001 HO_525002 HO_528000 HO_528001 HO_528002 BK524 BK525 BK526 BK527 HB HL547_1 HL547_2 HR547_1 HR547_2 hx547_0 hx547_1 hx547_2 hHeld ⊢
              refine pure_ (i := 0) (N := some 93) (v := ?_) (a' := ?_) (ba 11 1) rfl rfl (any_of HT_.out (by kernel_rfl)) (fun _ _ _ h => h) (Or.inl ⟨by rfl, ?_⟩) ?_ ?_
              rotate_left
              ·intro w'
               go_simp
               with_reducible rfl
              rotate_left
              ·simp only [Act.put, sA, sB, sC, i64_w, i32_w]
               rfl
              refine pure_ (i := 2) (N := some 95) (v := ?_) (a' := ?_) (ba 11 5) rfl rfl (any_of HT_.out (by kernel_rfl)) (fun _ _ _ h => h) (Or.inl ⟨by rfl, ?_⟩) ?_ ?_
              rotate_left
              ·intro w'
               go_simp
               with_reducible rfl
              rotate_left
              ·simp only [Act.put, sA, sB, sC, i64_w, i32_w]
               rfl
              refine pure_ (i := 4) (N := some 97) (v := ?_) (a' := ?_) (ba 11 21) rfl rfl (any_of HT_.out (by kernel_rfl)) (fun _ _ _ h => h) (Or.inl ⟨by rfl, ?_⟩) ?_ ?_
              rotate_left
              ·intro w'
               go_simp
               with_reducible rfl
              rotate_left
              ·simp only [Act.put, sA, sB, sC, i64_w, i32_w]
               rfl
              refine take_ (i := 1) (N := some 94) (v := ?_) (a' := ?_) (ba 11 23) rfl rfl (take_ofW HT_.out HW_.out (by kernel_rfl)) (fun _ _ _ h => h) (Or.inl ⟨by rfl, ?_⟩) hHeld ?_ ?_
              rotate_left
              ·rintro w' ⟨s0, s1, s2, s3, s4, s5, s6, s7, s8⟩
               go_simp
               with_reducible rfl
              rotate_left
              ·simp only [Act.put, sA, sB, sC, i64_w, i32_w]
               rfl
              refine take_ (i := 3) (N := some 96) (v := ?_) (a' := ?_) (ba 11 31) rfl rfl (take_ofW HT_.out HW_.out (by kernel_rfl)) (fun _ _ _ h => h) (Or.inl ⟨by rfl, ?_⟩) hHeld ?_ ?_
              rotate_left
              ·rintro w' ⟨s0, s1, s2, s3, s4, s5, s6, s7, s8⟩
               go_simp
               with_reducible rfl
              rotate_left
              ·simp only [Act.put, sA, sB, sC, i64_w, i32_w]
               rfl
              refine pure_ (i := 5) (N := some 98) (v := ?_) (a' := ?_) (ba 11 63) rfl rfl (any_of HT_.out (by kernel_rfl)) (fun _ _ _ h => h) (Or.inl ⟨by rfl, ?_⟩) ?_ ?_
              rotate_left
              ·intro w'
               go_simp
               with_reducible rfl
              rotate_left
              ·simp only [Act.put, sA, sB, sC, i64_w, i32_w]
               rfl
              refine take_ (i := 6) (N := some 99) (v := ?_) (a' := ?_) (ba 11 127) rfl rfl (take_ofW HT_.out HW_.out (by kernel_rfl)) (fun _ _ _ h => h) (Or.inl ⟨by rfl, ?_⟩) hHeld ?_ ?_
              rotate_left
              ·rintro w' ⟨s0, s1, s2, s3, s4, s5, s6, s7, s8⟩
               go_simp
               with_reducible rfl
              rotate_left
              ·simp only [Act.put, sA, sB, sC, i64_w, i32_w]
               rfl
              refine one_ (i := 7) (N := some 100) (ba 11 255) rfl rfl (one_of HT_.out (by kernel_rfl)) (by decide) (fun K hK => ?_)
              refine value_ (w1 := ?_) (v := ?_) (by rfl) rfl ?_ ?_
              rotate_left 2
              ·go_simp
               constructor
               ·rfl
               ·rfl
              refine hK.out _ _ ⟨(kC (kA BK527.out _) 0).trans rfl, (kC (kA BK527.out _) 1).trans rfl, (kC (kA BK527.out _) 2).trans rfl, (kC (kA BK524.out _) 0).trans rfl, (kC (kA BK524.out _) 1).trans rfl, (kC (kA BK524.out _) 2).trans rfl, (World.cell?_alloc_lt _ _ _ (World.block_lt_of_cell? _ _ (hHeld.2.2.2.2.2.2.1))).trans (hHeld.2.2.2.2.2.2.1), (World.cell?_alloc_lt _ _ _ (World.block_lt_of_cell? _ _ (hHeld.2.2.2.2.2.2.2.1))).trans (hHeld.2.2.2.2.2.2.2.1), (World.cell?_alloc_lt _ _ _ (World.block_lt_of_cell? _ _ (hHeld.2.2.2.2.2.2.2.2))).trans (hHeld.2.2.2.2.2.2.2.2)⟩ (fun hHeld => ?_)
              clear hK K
              refine norm_ (a' := ?_) ?_ ?_
              rotate_left
              ·show Act.put _ (some 100) _ = _
               simp only [Act.put, sA, sB, sC, i64_w, i32_w]
               rfl
              refine last_ (i := 8) (N := some 101) (ba 11 511) rfl rfl (one_of HT_.out (by kernel_rfl)) (by decide) (fun K hK => ?_)
              refine Kd.N_append_step k51 (w0 := w) w.heap.size (by rfl) (.tmp 94) (.tmp 100) 24 51 (.agg #[(.int .i64 0), (.slice none 0 0), (.slice none 0 0)]) 56 rfl Try.underlying24 info51 rfl (by decide) (by omega) u528002 x528002_3 (⟨(rd_T51 l0_2 x8_3).f0, (rd_T51 l0_2 x8_3).f1, (rd_T51 l0_2 x8_3).f2⟩ : S51) [.int .i64 ((rd_T51 l0_2 x8_3).f0), .slice A547_1 ((rd_T51 l0_2 x8_3).f1).length c547_1, .slice A547_2 ((rd_T51 l0_2 x8_3).f2).length c547_2] (fun k_ => ((P0_0_ k_ ∨ P0_1_ k_ ∨ P0_2_ k_) ∨ w.heap.size ≤ k_) ∧ some k_ ≠ (u528000 : Value).ownBlock ∧ some k_ ≠ (u528001 : Value).ownBlock ∧ k_ ≠ gb524 ∧ k_ ≠ gb525 ∧ k_ ≠ gb526 ∧ k_ ≠ gb527) (fun k_ => ((fun k_ => ((P0_0_ k_ ∨ P0_1_ k_ ∨ P0_2_ k_) ∨ w.heap.size ≤ k_) ∧ some k_ ≠ (u528000 : Value).ownBlock ∧ some k_ ≠ (u528001 : Value).ownBlock ∧ k_ ≠ gb524 ∧ k_ ≠ gb525 ∧ k_ ≠ gb526 ∧ k_ ≠ gb527)) k_ ∧ some k_ ≠ (u528002 : Value).ownBlock) rfl rfl ?aP (fun _ hk => hk) ?aF ?aO ?aB ?aS ?aL ?_
              (case aP => exact (k51_mkF _ _ (⟨(rd_T51 l0_2 x8_3).f0, (rd_T51 l0_2 x8_3).f1, (rd_T51 l0_2 x8_3).f2⟩ : S51) (Kd.V_reads' (Kd.V_mono (ok' := (fun k_ => ((fun k_ => ((P0_0_ k_ ∨ P0_1_ k_ ∨ P0_2_ k_) ∨ w.heap.size ≤ k_) ∧ some k_ ≠ (u528000 : Value).ownBlock ∧ some k_ ≠ (u528001 : Value).ownBlock ∧ k_ ≠ gb524 ∧ k_ ≠ gb525 ∧ k_ ≠ gb526 ∧ k_ ≠ gb527)) k_ ∧ some k_ ≠ (u528002 : Value).ownBlock)) (HL547_1.out) (fun k_ hk => ⟨⟨hk.1, ⟨hk.2.1, ⟨hk.2.2.1, ⟨hk.2.2.2.2.1, ⟨hk.2.2.2.2.2.1, ⟨hk.2.2.2.2.2.2.1, hk.2.2.2.2.2.2.2⟩⟩⟩⟩⟩⟩, hk.2.2.2.1⟩))).2.1 (Kd.V_F (Kd.V_mono (ok' := (fun k_ => ((fun k_ => ((P0_0_ k_ ∨ P0_1_ k_ ∨ P0_2_ k_) ∨ w.heap.size ≤ k_) ∧ some k_ ≠ (u528000 : Value).ownBlock ∧ some k_ ≠ (u528001 : Value).ownBlock ∧ k_ ≠ gb524 ∧ k_ ≠ gb525 ∧ k_ ≠ gb526 ∧ k_ ≠ gb527)) k_ ∧ some k_ ≠ (u528002 : Value).ownBlock)) (HL547_1.out) (fun k_ hk => ⟨⟨hk.1, ⟨hk.2.1, ⟨hk.2.2.1, ⟨hk.2.2.2.2.1, ⟨hk.2.2.2.2.2.1, ⟨hk.2.2.2.2.2.2.1, hk.2.2.2.2.2.2.2⟩⟩⟩⟩⟩⟩, hk.2.2.2.1⟩))) (Kd.V_reads' (Kd.V_mono (ok' := (fun k_ => ((fun k_ => ((P0_0_ k_ ∨ P0_1_ k_ ∨ P0_2_ k_) ∨ w.heap.size ≤ k_) ∧ some k_ ≠ (u528000 : Value).ownBlock ∧ some k_ ≠ (u528001 : Value).ownBlock ∧ k_ ≠ gb524 ∧ k_ ≠ gb525 ∧ k_ ≠ gb526 ∧ k_ ≠ gb527)) k_ ∧ some k_ ≠ (u528002 : Value).ownBlock)) (HL547_2.out) (fun k_ hk => ⟨⟨hk.1, ⟨hk.2.1, ⟨hk.2.2.1, ⟨hk.2.2.2.2.1, ⟨hk.2.2.2.2.2.1, ⟨hk.2.2.2.2.2.2.1, hk.2.2.2.2.2.2.2⟩⟩⟩⟩⟩⟩, hk.2.2.2.1⟩))).2.1 (Kd.V_F (Kd.V_mono (ok' := (fun k_ => ((fun k_ => ((P0_0_ k_ ∨ P0_1_ k_ ∨ P0_2_ k_) ∨ w.heap.size ≤ k_) ∧ some k_ ≠ (u528000 : Value).ownBlock ∧ some k_ ≠ (u528001 : Value).ownBlock ∧ k_ ≠ gb524 ∧ k_ ≠ gb525 ∧ k_ ≠ gb526 ∧ k_ ≠ gb527)) k_ ∧ some k_ ≠ (u528002 : Value).ownBlock)) (HL547_2.out) (fun k_ hk => ⟨⟨hk.1, ⟨hk.2.1, ⟨hk.2.2.1, ⟨hk.2.2.2.2.1, ⟨hk.2.2.2.2.2.1, ⟨hk.2.2.2.2.2.2.1, hk.2.2.2.2.2.2.2⟩⟩⟩⟩⟩⟩, hk.2.2.2.1⟩)))))
              (case aB => exact (bl))
              (case aF => exact (fun k_ hk => ⟨(.inr (Nat.le_trans (below_size (bl)) hk)), Kd.fresh' (Kd.N_lt (by (with_reducible repeat (first | apply Kd.N_alloc | apply Kd.N_drewN | apply Kd.N_drew)); exact HO_528000.out)) k_ hk, Kd.fresh' (Kd.N_lt (by (with_reducible repeat (first | apply Kd.N_alloc | apply Kd.N_drewN | apply Kd.N_drew)); exact HO_528001.out)) k_ hk, Kd.freshB (kl BK524) k_ hk, Kd.freshB (kl BK525) k_ hk, Kd.freshB (kl BK526) k_ hk, Kd.freshB (kl BK527) k_ hk⟩))
              (case aO => exact (by (with_reducible repeat (first | apply Kd.N_alloc | apply Kd.N_drewN | apply Kd.N_drew)); exact HO_528002.out))
              (case aS => exact (below_size (bl)))
              (case aL => have := LMc88.out; omega)
              intro v549 w95 ho hb hg hat
              rw [← Ny548.out] at ho
              have HO550 := aM (ho)
              replace HO_525000 := aM (Kd.V_afterv (ok := (fun k_ => ((P0_0_ k_ ∨ P0_1_ k_ ∨ P0_2_ k_) ∨ w.heap.size ≤ k_) ∧ some k_ ≠ (u528000 : Value).ownBlock ∧ some k_ ≠ (u528001 : Value).ownBlock ∧ k_ ≠ gb524 ∧ k_ ≠ gb525 ∧ k_ ≠ gb526 ∧ k_ ≠ gb527)) (by (with_reducible repeat (first | apply Kd.V_alloc | apply Kd.V_drewN | apply Kd.V_drew)); exact Kd.V_mono HO_525000.out (fun _ hk => ⟨⟨hk.1, ⟨hk.2.1, ⟨hk.2.2.1, ⟨hk.2.2.2.2.1, ⟨hk.2.2.2.2.2.1, ⟨hk.2.2.2.2.2.2.1, hk.2.2.2.2.2.2.2⟩⟩⟩⟩⟩⟩, hk.2.2.2.1⟩)) hg hat)
              replace HO_525001 := aM (Kd.V_afterv (ok := (fun k_ => ((P0_0_ k_ ∨ P0_1_ k_ ∨ P0_2_ k_) ∨ w.heap.size ≤ k_) ∧ some k_ ≠ (u528000 : Value).ownBlock ∧ some k_ ≠ (u528001 : Value).ownBlock ∧ k_ ≠ gb524 ∧ k_ ≠ gb525 ∧ k_ ≠ gb526 ∧ k_ ≠ gb527)) (by (with_reducible repeat (first | apply Kd.V_alloc | apply Kd.V_drewN | apply Kd.V_drew)); exact Kd.V_mono HO_525001.out (fun _ hk => ⟨⟨hk.1, ⟨hk.2.1, ⟨hk.2.2.1, ⟨hk.2.2.2.2.1, ⟨hk.2.2.2.2.2.1, ⟨hk.2.2.2.2.2.2.1, hk.2.2.2.2.2.2.2⟩⟩⟩⟩⟩⟩, hk.2.2.2.1⟩)) hg hat)
              replace HO_525002 := aM (Kd.V_afterv (ok := (fun k_ => ((P0_0_ k_ ∨ P0_1_ k_ ∨ P0_2_ k_) ∨ w.heap.size ≤ k_) ∧ some k_ ≠ (u528000 : Value).ownBlock ∧ some k_ ≠ (u528001 : Value).ownBlock ∧ k_ ≠ gb524 ∧ k_ ≠ gb525 ∧ k_ ≠ gb526 ∧ k_ ≠ gb527)) (by (with_reducible repeat (first | apply Kd.V_alloc | apply Kd.V_drewN | apply Kd.V_drew)); exact Kd.V_mono HO_525002.out (fun _ hk => ⟨⟨hk.1, ⟨hk.2.1, ⟨hk.2.2.1, ⟨hk.2.2.2.2.1, ⟨hk.2.2.2.2.2.1, ⟨hk.2.2.2.2.2.2.1, hk.2.2.2.2.2.2.2⟩⟩⟩⟩⟩⟩, hk.2.2.2.1⟩)) hg hat)
              replace HO_528000 := aM (Kd.N_afterv (ok := (fun k_ => ((P0_0_ k_ ∨ P0_1_ k_ ∨ P0_2_ k_) ∨ w.heap.size ≤ k_) ∧ some k_ ≠ (u528001 : Value).ownBlock ∧ k_ ≠ gb524 ∧ k_ ≠ gb525 ∧ k_ ≠ gb526 ∧ k_ ≠ gb527)) (by (with_reducible repeat (first | apply Kd.N_alloc | apply Kd.N_drewN | apply Kd.N_drew)); exact Kd.N_mono HO_528000.out (fun _ hk => ⟨⟨hk.1, ⟨hk.2.1, ⟨hk.2.2.2.1, ⟨hk.2.2.2.2.1, ⟨hk.2.2.2.2.2.1, hk.2.2.2.2.2.2⟩⟩⟩⟩⟩, hk.2.2.1⟩)) hg hat)
              replace HO_528001 := aM (Kd.N_afterv (ok := (fun k_ => ((P0_0_ k_ ∨ P0_1_ k_ ∨ P0_2_ k_) ∨ w.heap.size ≤ k_) ∧ some k_ ≠ (u528000 : Value).ownBlock ∧ k_ ≠ gb524 ∧ k_ ≠ gb525 ∧ k_ ≠ gb526 ∧ k_ ≠ gb527)) (by (with_reducible repeat (first | apply Kd.N_alloc | apply Kd.N_drewN | apply Kd.N_drew)); exact Kd.N_mono HO_528001.out (fun _ hk => ⟨⟨hk.1, ⟨hk.2.1, ⟨hk.2.2.2.1, ⟨hk.2.2.2.2.1, ⟨hk.2.2.2.2.2.1, hk.2.2.2.2.2.2⟩⟩⟩⟩⟩, hk.2.2.1⟩)) hg hat)
              replace BK524 := aM (blk_grown (kl BK524) hg (Kd.N_ne HO_528002.out BK524.out (by decide)))
              replace BK525 := aM (blk_grown (kl BK525) hg (Kd.N_ne HO_528002.out BK525.out (by decide)))
              replace BK526 := aM (blk_grown (kl BK526) hg (Kd.N_ne HO_528002.out BK526.out (by decide)))
              replace BK527 := aM (blk_grown (kl BK527) hg (Kd.N_ne HO_528002.out BK527.out (by decide)))
              replace HB := aM (hb)
              clear HL547_1 HL547_2 HO_528002 ho hb hg hat
              obtain ⟨Ao96, co96, eo96⟩ := Kd.N_slice HO550.out
              (first | subst eo96 | (injection eo96 with f1_ f2_ f3_; have f4_ := f1_.symm; have f5_ := f3_.symm; clear f1_ f2_ f3_; subst f4_; subst f5_))
              refine hK.out _ _ ?_
              clear hK K
              refine norm_ (a' := ?_) ?_ ?_
              rotate_left
              ·show Act.put _ (some 101) _ = _
               simp only [Act.put, sA, sB, sC, i64_w, i32_w]
               rfl
              refine pure_ (i := 9) (N := some 102) (v := ?_) (a' := ?_) (ba 11 1023) rfl rfl (any_of HT_.out (by kernel_rfl)) (fun _ _ _ h => h) (Or.inl ⟨by rfl, ?_⟩) ?_ ?_
              rotate_left
              ·intro w'
               go_simp
               with_reducible rfl
              rotate_left
              ·simp only [Act.put, sA, sB, sC, i64_w, i32_w]
               rfl
              refine last_ (i := 10) (N := none) (ba 11 2047) rfl rfl (one_of HT_.out (by kernel_rfl)) (by decide) (fun K hK => ?_)
              have hs97 : w95.cell? ⟨gb527, 2, none⟩ = some (u528002) := (kC BK527.out 2).trans rfl
              have hfs97 := kF BK527.out 2
              have hns97_0 := NB524_527.out
              have hns97_1 := NB525_527.out
              have hns97_2 := NB526_527.out
              have hms97_0 := NB527_524.out
              have hms97_1 := NB527_525.out
              have hms97_2 := NB527_526.out
              refine skip_ (w1 := ?_) (by rfl) rfl ?_ ?_
              rotate_left
              ·go_simp
               rfl
              refine hK.out _ _ ?_
              clear hK K
              refine done_ (done_of HT_.out (by kernel_rfl)) ?_
              try go_wp2
              go_roundg k3
              case measure => have := HK1.out; have := HK2.out; have := HK3.out; omega
              case rel => exact ⟨(wrap64 (x8_3 + 1)), (y548), (.slice Ao96 y548.length co96), (by first | rfl | (simp; done) | (simp [*]; done)), H', ⟨by have := HK1.out; have := HK2.out; have := HK3.out; omega⟩, ⟨by (with_reducible repeat (first | apply Kd.V_alloc | apply Kd.V_drewN | apply Kd.V_drew)); exact Kd.V_mono (Kd.V_far (p := ⟨gb527, 2, none⟩) (Kd.V_mono HO_525000.out (fun k_ hk => (⟨hk, hk.1.2.2.2.2.2.2⟩ : _ ∧ k_ ≠ gb527))) (fun _ hk => hk.2) (.slice Ao96 y548.length co96)) (fun _ hk => ⟨hk.1.1.1, ⟨hk.1.1.2.1, ⟨hk.1.1.2.2.1, ⟨hk.1.2, ⟨hk.1.1.2.2.2.1, ⟨hk.1.1.2.2.2.2.1, ⟨hk.1.1.2.2.2.2.2.1, hk.1.1.2.2.2.2.2.2⟩⟩⟩⟩⟩⟩⟩)⟩, ⟨by (with_reducible repeat (first | apply Kd.V_alloc | apply Kd.V_drewN | apply Kd.V_drew)); exact Kd.V_mono (Kd.V_far (p := ⟨gb527, 2, none⟩) (Kd.V_mono HO_525001.out (fun k_ hk => (⟨hk, hk.1.2.2.2.2.2.2⟩ : _ ∧ k_ ≠ gb527))) (fun _ hk => hk.2) (.slice Ao96 y548.length co96)) (fun _ hk => ⟨hk.1.1.1, ⟨hk.1.1.2.1, ⟨hk.1.1.2.2.1, ⟨hk.1.2, ⟨hk.1.1.2.2.2.1, ⟨hk.1.1.2.2.2.2.1, ⟨hk.1.1.2.2.2.2.2.1, hk.1.1.2.2.2.2.2.2⟩⟩⟩⟩⟩⟩⟩)⟩, ⟨by (with_reducible repeat (first | apply Kd.V_alloc | apply Kd.V_drewN | apply Kd.V_drew)); exact Kd.V_mono (Kd.V_far (p := ⟨gb527, 2, none⟩) (Kd.V_mono HO_525002.out (fun k_ hk => (⟨hk, hk.1.2.2.2.2.2.2⟩ : _ ∧ k_ ≠ gb527))) (fun _ hk => hk.2) (.slice Ao96 y548.length co96)) (fun _ hk => ⟨hk.1.1.1, ⟨hk.1.1.2.1, ⟨hk.1.1.2.2.1, ⟨hk.1.2, ⟨hk.1.1.2.2.2.1, ⟨hk.1.1.2.2.2.2.1, ⟨hk.1.1.2.2.2.2.2.1, hk.1.1.2.2.2.2.2.2⟩⟩⟩⟩⟩⟩⟩)⟩, ⟨by (with_reducible repeat (first | apply Kd.N_alloc | apply Kd.N_drewN | apply Kd.N_drew)); exact Kd.N_mono (Kd.N_far (p := ⟨gb527, 2, none⟩) (Kd.N_mono HO_528000.out (fun k_ hk => (⟨hk, hk.1.2.2.2.2.2⟩ : _ ∧ k_ ≠ gb527))) (fun _ hk => hk.2) (.slice Ao96 y548.length co96)) (fun _ hk => ⟨hk.1.1.1, ⟨hk.1.1.2.1, ⟨hk.1.2, ⟨hk.1.1.2.2.1, ⟨hk.1.1.2.2.2.1, ⟨hk.1.1.2.2.2.2.1, hk.1.1.2.2.2.2.2⟩⟩⟩⟩⟩⟩)⟩, ⟨by (with_reducible repeat (first | apply Kd.N_alloc | apply Kd.N_drewN | apply Kd.N_drew)); exact Kd.N_mono (Kd.N_far (p := ⟨gb527, 2, none⟩) (Kd.N_mono HO_528001.out (fun k_ hk => (⟨hk, hk.1.2.2.2.2.2⟩ : _ ∧ k_ ≠ gb527))) (fun _ hk => hk.2) (.slice Ao96 y548.length co96)) (fun _ hk => ⟨hk.1.1.1, ⟨hk.1.1.2.1, ⟨hk.1.2, ⟨hk.1.1.2.2.1, ⟨hk.1.1.2.2.2.1, ⟨hk.1.1.2.2.2.2.1, hk.1.1.2.2.2.2.2⟩⟩⟩⟩⟩⟩)⟩, ⟨by (with_reducible repeat (first | apply Kd.N_alloc | apply Kd.N_drewN | apply Kd.N_drew)); exact Kd.N_mono (Kd.N_far (p := ⟨gb527, 2, none⟩) (Kd.N_mono HO550.out (fun k_ hk => (⟨hk, hk.2.2.2.2.2.2⟩ : _ ∧ k_ ≠ gb527))) (fun _ hk => hk.2) (.slice Ao96 y548.length co96)) (fun _ hk => ⟨hk.1.1, ⟨hk.1.2.1, ⟨hk.1.2.2.1, ⟨hk.1.2.2.2.1, ⟨hk.1.2.2.2.2.1, ⟨hk.1.2.2.2.2.2.1, hk.1.2.2.2.2.2.2⟩⟩⟩⟩⟩⟩)⟩, ⟨by (with_reducible repeat (first | refine kN ?_ _ | refine kD ?_ | refine kA ?_ _)); refine blk_far ?_ NB524_527.out _; (with_reducible repeat (first | refine kN ?_ _ | refine kD ?_ | refine kA ?_ _)); exact BK524.out⟩, ⟨by (with_reducible repeat (first | refine kN ?_ _ | refine kD ?_ | refine kA ?_ _)); refine blk_far ?_ NB525_527.out _; (with_reducible repeat (first | refine kN ?_ _ | refine kD ?_ | refine kA ?_ _)); exact BK525.out⟩, ⟨by (with_reducible repeat (first | refine kN ?_ _ | refine kD ?_ | refine kA ?_ _)); refine blk_far ?_ NB526_527.out _; (with_reducible repeat (first | refine kN ?_ _ | refine kD ?_ | refine kA ?_ _)); exact BK526.out⟩, ⟨by (with_reducible repeat (first | refine kN ?_ _ | refine kD ?_ | refine kA ?_ _)); refine kP (cs := #[u528000, u528001, u528002]) ?_ 2 _ rfl; (with_reducible repeat (first | refine kN ?_ _ | refine kD ?_ | refine kA ?_ _)); exact BK527.out⟩, ⟨bl⟩⟩
             ·rw [if_neg c88] at H
              exact absurd H (by simp)
           ·rw [if_neg c81] at H
            exact absurd H (by simp)
          ·rw [if_neg c80] at H
           have c80b0 : (a1_0 == 3) = false := beq_eq_false_iff_ne.mpr c80
           have c80b1 : (a1_0 != 3) = true := bne_iff_ne.mpr c80
           by_cases c98 : 0 ≤ x8_3
           ·rw [if_pos c98] at H
            have c98b0 : decide (0 ≤ x8_3) = true := decide_eq_true c98
            clear c98
            by_cases c99 : x528002_3.length < 2513169434916
            ·rw [if_pos c99] at H
             have LMc99 := aM c99
             clear c99
             obtain ⟨y552, hy552⟩ : ∃ y_ : List (S51), y_ = (x528002_3 ++ [(⟨(rd_T51 l0_2 x8_3).f0, (rd_T51 l0_2 x8_3).f1, (rd_T51 l0_2 x8_3).f2⟩ : S51)]) := ⟨_, rfl⟩
             replace H : (mapmakerlaw14_without.l2 k3 (wrap64 (x8_3 + 1)) l0_0 l0_1 l0_2 a1_0 a1_1 x528000_1 x528001_2 y552) = some (r1, r2, r3) := by first | (rw [hy552]; with_reducible exact H) | (have H2_ := (Option.bind_some _ _).symm.trans H; rw [hy552]; with_reducible exact H2_) | (have H2_ := (Option.bind_some _ _).symm.trans H; with_reducible exact H2_) | with_reducible exact H | (rw [hy552]; exact H) | exact H
             have Ny552 := aM hy552
             clear hy552
             have H' := aM H
             clear H
             have hnb100 := NB524_525.out
             have hnc100 := NB525_524.out
             have hnb101 := NB524_526.out
             have hnc101 := NB526_524.out
             have hnb102 := NB524_527.out
             have hnc102 := NB527_524.out
             obtain ⟨hcz103_0, hcz103_1, hcz103_2, hfz103_0, hfz103_1, hfz103_2⟩ := bc3 BK524
             try go_wp2
             replace HO_525000 := aM (Kd.V_drew HO_525000.out)
             replace HO_525001 := aM (Kd.V_drew HO_525001.out)
             replace HO_525002 := aM (Kd.V_drew HO_525002.out)
             replace HO_528000 := aM (Kd.N_drew HO_528000.out)
             replace HO_528001 := aM (Kd.N_drew HO_528001.out)
             replace HO_528002 := aM (Kd.N_drew HO_528002.out)
             replace BK524 := aM (kD BK524.out)
             replace BK525 := aM (kD BK525.out)
             replace BK526 := aM (kD BK526.out)
             replace BK527 := aM (kD BK527.out)
             replace HB := aM (bD HB.out)
             refine start_ (n := 14) (S := fun w' => w'.cell? ⟨gb525, 0, none⟩ = some (.int .i64 a1_0) ∧ w'.cell? ⟨gb525, 1, none⟩ = some (.int .i64 a1_1)) (ds := []) #[false, false, false, false, false, false, false, false, false, false, false, false, false, false] (by kernel_rfl) rfl rfl ⟨(kC BK525.out 0).trans rfl, (kC BK525.out 1).trans rfl⟩ (fun hHeld => ?_); refine with_tabW mapmakerlaw14_without.tab15 mapmakerlaw14_without.bits15 (fun HT_ HW_ => ?_)
             generalize wr.drew = w104 at HO_525000 HO_525001 HO_525002 HO_528000 HO_528001 HO_528002 BK524 BK525 BK526 BK527 HB hHeld ⊢
             refine pure_ (i := 0) (N := some 79) (v := ?_) (a' := ?_) (ba 14 1) rfl rfl (any_of HT_.out (by kernel_rfl)) (fun _ _ _ h => h) (Or.inl ⟨by rfl, ?_⟩) ?_ ?_
             rotate_left
             ·intro w'
              go_simp
              with_reducible rfl
             rotate_left
             ·simp only [Act.put, sA, sB, sC, i64_w, i32_w]
              rfl
             refine take_ (i := 1) (N := some 80) (v := ?_) (a' := ?_) (ba 14 3) rfl rfl (take_ofW HT_.out HW_.out (by kernel_rfl)) (fun _ _ _ h => h) (Or.inl ⟨by rfl, ?_⟩) hHeld ?_ ?_
             rotate_left
             ·rintro w' ⟨s0, s1⟩
              go_simp
              with_reducible rfl
             rotate_left
             ·simp only [Act.put, sA, sB, sC, i64_w, i32_w]
              rfl
             refine pure_ (i := 2) (N := some 81) (v := ?_) (a' := ?_) (ba 14 7) rfl rfl (any_of HT_.out (by kernel_rfl)) (fun _ _ _ h => h) (Or.inl ⟨by rfl, ?_⟩) ?_ ?_
             rotate_left
             ·intro w'
              go_simp
              with_reducible rfl
             rotate_left
             ·simp only [Act.put, sA, sB, sC, i64_w, i32_w]
              rfl
             refine pure_ (i := 3) (N := some 82) (v := ?_) (a' := ?_) (ba 14 15) rfl rfl (any_of HT_.out (by kernel_rfl)) (fun _ _ _ h => h) (Or.inl ⟨by rfl, ?_⟩) ?_ ?_
             rotate_left
             ·intro w'
              go_simp
              with_reducible rfl
             rotate_left
             ·simp only [Act.put, sA, sB, sC, i64_w, i32_w]
              rfl
             refine pure_ (i := 4) (N := some 83) (v := undef) (a' := ?_) (ba 14 31) rfl rfl (any_of HT_.out (by kernel_rfl)) (fun _ _ _ h => h) (Or.inr ⟨by rfl, rfl⟩) ?_ ?_
             rotate_left
             ·simp only [Act.put, sA, sB, sC, i64_w, i32_w]
              rfl
             refine pure_ (i := 5) (N := some 84) (v := undef) (a' := ?_) (ba 14 63) rfl rfl (any_of HT_.out (by kernel_rfl)) (fun _ _ _ h => h) (Or.inr ⟨by rfl, rfl⟩) ?_ ?_
             rotate_left
             ·simp only [Act.put, sA, sB, sC, i64_w, i32_w]
              rfl
             refine pure_ (i := 6) (N := some 85) (v := undef) (a' := ?_) (ba 14 127) rfl rfl (any_of HT_.out (by kernel_rfl)) (fun _ _ _ h => h) (Or.inr ⟨by rfl, rfl⟩) ?_ ?_
             rotate_left
             ·simp only [Act.put, sA, sB, sC, i64_w, i32_w]
              rfl
             refine pure_ (i := 7) (N := some 86) (v := undef) (a' := ?_) (ba 14 255) rfl rfl (any_of HT_.out (by kernel_rfl)) (fun _ _ _ h => h) (Or.inr ⟨by rfl, rfl⟩) ?_ ?_
             rotate_left
             ·simp only [Act.put, sA, sB, sC, i64_w, i32_w]
              rfl
             refine pure_ (i := 8) (N := some 87) (v := undef) (a' := ?_) (ba 14 511) rfl rfl (any_of HT_.out (by kernel_rfl)) (fun _ _ _ h => h) (Or.inr ⟨by rfl, rfl⟩) ?_ ?_
             rotate_left
             ·simp only [Act.put, sA, sB, sC, i64_w, i32_w]
              rfl
             refine pure_ (i := 9) (N := some 88) (v := undef) (a' := ?_) (ba 14 1023) rfl rfl (any_of HT_.out (by kernel_rfl)) (fun _ _ _ h => h) (Or.inr ⟨by rfl, rfl⟩) ?_ ?_
             rotate_left
             ·simp only [Act.put, sA, sB, sC, i64_w, i32_w]
              rfl
             refine pure_ (i := 10) (N := some 89) (v := undef) (a' := ?_) (ba 14 2047) rfl rfl (any_of HT_.out (by kernel_rfl)) (fun _ _ _ h => h) (Or.inr ⟨by rfl, rfl⟩) ?_ ?_
             rotate_left
             ·simp only [Act.put, sA, sB, sC, i64_w, i32_w]
              rfl
             refine pure_ (i := 11) (N := some 90) (v := undef) (a' := ?_) (ba 14 4095) rfl rfl (any_of HT_.out (by kernel_rfl)) (fun _ _ _ h => h) (Or.inr ⟨by rfl, rfl⟩) ?_ ?_
             rotate_left
             ·simp only [Act.put, sA, sB, sC, i64_w, i32_w]
              rfl
             refine pure_ (i := 12) (N := some 91) (v := undef) (a' := ?_) (ba 14 8191) rfl rfl (any_of HT_.out (by kernel_rfl)) (fun _ _ _ h => h) (Or.inr ⟨by rfl, rfl⟩) ?_ ?_
             rotate_left
             ·simp only [Act.put, sA, sB, sC, i64_w, i32_w]
              rfl
             refine pure_ (i := 13) (N := some 92) (v := ?_) (a' := ?_) (ba 14 16383) rfl rfl (any_of HT_.out (by kernel_rfl)) (fun _ _ _ h => h) (Or.inl ⟨by rfl, ?_⟩) ?_ ?_
             rotate_left
             ·intro w'
              go_simp
              with_reducible rfl
             rotate_left
             ·simp only [Act.put, sA, sB, sC, i64_w, i32_w]
              rfl
             refine done_ (done_of HT_.out (by kernel_rfl)) ?_
             try go_wp2
             replace HO_525000 := aM (Kd.V_drew HO_525000.out)
             replace HO_525001 := aM (Kd.V_drew HO_525001.out)
             replace HO_525002 := aM (Kd.V_drew HO_525002.out)
             replace HO_528000 := aM (Kd.N_drew HO_528000.out)
             replace HO_528001 := aM (Kd.N_drew HO_528001.out)
             replace HO_528002 := aM (Kd.N_drew HO_528002.out)
             replace BK524 := aM (kD BK524.out)
             replace BK525 := aM (kD BK525.out)
             replace BK526 := aM (kD BK526.out)
             replace BK527 := aM (kD BK527.out)
             replace HB := aM (bD HB.out)
             have p551 : 0 ≤ (x8_3 : Int) := oT
             have q551 : x8_3 < (l0_2.length : Int) := oT
             obtain ⟨ad551, A551_1, c551_1, A551_2, c551_2, e551, hx551_0, hx551_1, hx551_2, hl551_1, hi551_1, hl551_2, hi551_2⟩ := at_T51 (Kd.V_reads' HO_525002.out).2.2 x8_3 p551 q551
             cases e551
             obtain ⟨ce551, hce551, hMe551, hcc551⟩ := Kd.V_get HO_525002.out z51 x8_3 p551 (by first | exact q551 | exact of_decide_eq_true (by first | (with_reducible assumption) | assumption) | (have e_ := (Kd.V_reads' HO_525002.out).1; omega))
             obtain ⟨ua551_1, uc551_1, ua551_2, uc551_2, rfl, ul551_1, ge551_1, ul551_2, ge551_2⟩ := k51_openF hMe551
             have hv551_1 := hcc551 1 _ rfl
             rw [add_field _ _ 1 (by omega)] at hv551_1
             replace hv551_1 := Option.some.inj (hv551_1.symm.trans hx551_1)
             injection hv551_1 with hva_ hvn_ hvc_
             rw [hva_] at ge551_1
             rw [hvc_] at ul551_1
             have HL551_1 := aM (show Kd.V k67 67 _ w.heap.size _ _ ((rd_T51 l0_2 x8_3).f1) from Kd.V_mk ul551_1 ge551_1)
             clear hva_ hvn_ hvc_ ge551_1 ul551_1
             have hv551_2 := hcc551 2 _ rfl
             rw [add_field _ _ 2 (by omega)] at hv551_2
             replace hv551_2 := Option.some.inj (hv551_2.symm.trans hx551_2)
             injection hv551_2 with hva_ hvn_ hvc_
             rw [hva_] at ge551_2
             rw [hvc_] at ul551_2
             have HL551_2 := aM (show Kd.V k70 70 _ w.heap.size _ _ ((rd_T51 l0_2 x8_3).f2) from Kd.V_mk ul551_2 ge551_2)
             clear hva_ hvn_ hvc_ ge551_2 ul551_2 hcc551 hce551
             have HR551_1 := aM hi551_1
             have HC551_1 := aM hl551_1
             clear hi551_1 hl551_1
             have HR551_2 := aM hi551_2
             have HC551_2 := aM hl551_2
             clear hi551_2 hl551_2
             replace p551 := eq_true p551
             replace q551 := eq_true q551
             refine start_ (n := 11) (S := fun w' => w'.cell? ⟨gb527, 0, none⟩ = some (u528000) ∧ w'.cell? ⟨gb527, 1, none⟩ = some (u528001) ∧ w'.cell? ⟨gb527, 2, none⟩ = some (u528002) ∧ w'.cell? ⟨gb524, 0, none⟩ = some (.slice A0_0 l0_0.length c0_0) ∧ w'.cell? ⟨gb524, 1, none⟩ = some (.slice A0_1 l0_1.length c0_1) ∧ w'.cell? ⟨gb524, 2, none⟩ = some (.slice (some ad551) l0_2.length c0_2) ∧ w'.cell? (ad551.add ((x8_3).toNat * 3)) = some (.int .i64 ((rd_T51 l0_2 x8_3).f0)) ∧ w'.cell? ⟨(ad551.add ((x8_3).toNat * 3)).block, (ad551.add ((x8_3).toNat * 3)).off + 1, none⟩ = some (.slice A551_1 ((rd_T51 l0_2 x8_3).f1).length c551_1) ∧ w'.cell? ⟨(ad551.add ((x8_3).toNat * 3)).block, (ad551.add ((x8_3).toNat * 3)).off + 2, none⟩ = some (.slice A551_2 ((rd_T51 l0_2 x8_3).f2).length c551_2)) (ds := [8, 10]) #[false, false, false, false, false, false, false, false, false, false, false] (by kernel_rfl) rfl rfl ⟨(kC BK527.out 0).trans rfl, (kC BK527.out 1).trans rfl, (kC BK527.out 2).trans rfl, (kC BK524.out 0).trans rfl, (kC BK524.out 1).trans rfl, (kC BK524.out 2).trans rfl, hx551_0, hx551_1, hx551_2⟩ (fun hHeld => ?_); refine with_tabW mapmakerlaw14_without.tab16 mapmakerlaw14_without.bits16 (fun HT_ HW_ => ?_)
             generalize w104.drew = w105 at HO_525000 HO_525001 HO_525002 HO_528000 HO_528001 HO_528002 BK524 BK525 BK526 BK527 HB HL551_1 HL551_2 HR551_1 HR551_2 hx551_0 hx551_1 hx551_2 hHeld ⊢
             refine pure_ (i := 0) (N := some 93) (v := ?_) (a' := ?_) (ba 11 1) rfl rfl (any_of HT_.out (by kernel_rfl)) (fun _ _ _ h => h) (Or.inl ⟨by rfl, ?_⟩) ?_ ?_
             rotate_left
             ·intro w'
              go_simp
              with_reducible rfl
             rotate_left
             ·simp only [Act.put, sA, sB, sC, i64_w, i32_w]
              rfl
             refine pure_ (i := 2) (N := some 95) (v := ?_) (a' := ?_) (ba 11 5) rfl rfl (any_of HT_.out (by kernel_rfl)) (fun _ _ _ h => h) (Or.inl ⟨by rfl, ?_⟩) ?_ ?_
             rotate_left
             ·intro w'
              go_simp
              with_reducible rfl
             rotate_left
             ·simp only [Act.put, sA, sB, sC, i64_w, i32_w]
              rfl
             refine pure_ (i := 4) (N := some 97) (v := ?_) (a' := ?_) (ba 11 21) rfl rfl (any_of HT_.out (by kernel_rfl)) (fun _ _ _ h => h) (Or.inl ⟨by rfl, ?_⟩) ?_ ?_
             rotate_left
             ·intro w'
              go_simp
              with_reducible rfl
             rotate_left
             ·simp only [Act.put, sA, sB, sC, i64_w, i32_w]
              rfl
             refine take_ (i := 1) (N := some 94) (v := ?_) (a' := ?_) (ba 11 23) rfl rfl (take_ofW HT_.out HW_.out (by kernel_rfl)) (fun _ _ _ h => h) (Or.inl ⟨by rfl, ?_⟩) hHeld ?_ ?_
             rotate_left
             ·rintro w' ⟨s0, s1, s2, s3, s4, s5, s6, s7, s8⟩
              go_simp
              with_reducible rfl
             rotate_left
             ·simp only [Act.put, sA, sB, sC, i64_w, i32_w]
              rfl
             refine take_ (i := 3) (N := some 96) (v := ?_) (a' := ?_) (ba 11 31) rfl rfl (take_ofW HT_.out HW_.out (by kernel_rfl)) (fun _ _ _ h => h) (Or.inl ⟨by rfl, ?_⟩) hHeld ?_ ?_
             rotate_left
             ·rintro w' ⟨s0, s1, s2, s3, s4, s5, s6, s7, s8⟩
              go_simp
              with_reducible rfl
             rotate_left
             ·simp only [Act.put, sA, sB, sC, i64_w, i32_w]
              rfl
             refine pure_ (i := 5) (N := some 98) (v := ?_) (a' := ?_) (ba 11 63) rfl rfl (any_of HT_.out (by kernel_rfl)) (fun _ _ _ h => h) (Or.inl ⟨by rfl, ?_⟩) ?_ ?_
             rotate_left
             ·intro w'
              go_simp
              with_reducible rfl
             rotate_left
             ·simp only [Act.put, sA, sB, sC, i64_w, i32_w]
              rfl
             refine take_ (i := 6) (N := some 99) (v := ?_) (a' := ?_) (ba 11 127) rfl rfl (take_ofW HT_.out HW_.out (by kernel_rfl)) (fun _ _ _ h => h) (Or.inl ⟨by rfl, ?_⟩) hHeld ?_ ?_
             rotate_left
             ·rintro w' ⟨s0, s1, s2, s3, s4, s5, s6, s7, s8⟩
              go_simp
              with_reducible rfl
             rotate_left
             ·simp only [Act.put, sA, sB, sC, i64_w, i32_w]
              rfl
             refine one_ (i := 7) (N := some 100) (ba 11 255) rfl rfl (one_of HT_.out (by kernel_rfl)) (by decide) (fun K hK => ?_)
             refine value_ (w1 := ?_) (v := ?_) (by rfl) rfl ?_ ?_
             rotate_left 2
             ·go_simp
              constructor
              ·rfl
              ·rfl
             refine hK.out _ _ ⟨(kC (kA BK527.out _) 0).trans rfl, (kC (kA BK527.out _) 1).trans rfl, (kC (kA BK527.out _) 2).trans rfl, (kC (kA BK524.out _) 0).trans rfl, (kC (kA BK524.out _) 1).trans rfl, (kC (kA BK524.out _) 2).trans rfl, (World.cell?_alloc_lt _ _ _ (World.block_lt_of_cell? _ _ (hHeld.2.2.2.2.2.2.1))).trans (hHeld.2.2.2.2.2.2.1), (World.cell?_alloc_lt _ _ _ (World.block_lt_of_cell? _ _ (hHeld.2.2.2.2.2.2.2.1))).trans (hHeld.2.2.2.2.2.2.2.1), (World.cell?_alloc_lt _ _ _ (World.block_lt_of_cell? _ _ (hHeld.2.2.2.2.2.2.2.2))).trans (hHeld.2.2.2.2.2.2.2.2)⟩ (fun hHeld => ?_)
             clear hK K
             refine norm_ (a' := ?_) ?_ ?_
             rotate_left
             ·show Act.put _ (some 100) _ = _
              simp only [Act.put, sA, sB, sC, i64_w, i32_w]
              rfl
             refine last_ (i := 8) (N := some 101) (ba 11 511) rfl rfl (one_of HT_.out (by kernel_rfl)) (by decide) (fun K hK => ?_)
             refine Kd.N_append_step k51 (w0 := w) w.heap.size (by rfl) (.tmp 94) (.tmp 100) 24 51 (.agg #[(.int .i64 0), (.slice none 0 0), (.slice none 0 0)]) 56 rfl Try.underlying24 info51 rfl (by decide) (by omega) u528002 x528002_3 (⟨(rd_T51 l0_2 x8_3).f0, (rd_T51 l0_2 x8_3).f1, (rd_T51 l0_2 x8_3).f2⟩ : S51) [.int .i64 ((rd_T51 l0_2 x8_3).f0), .slice A551_1 ((rd_T51 l0_2 x8_3).f1).length c551_1, .slice A551_2 ((rd_T51 l0_2 x8_3).f2).length c551_2] (fun k_ => ((P0_0_ k_ ∨ P0_1_ k_ ∨ P0_2_ k_) ∨ w.heap.size ≤ k_) ∧ some k_ ≠ (u528000 : Value).ownBlock ∧ some k_ ≠ (u528001 : Value).ownBlock ∧ k_ ≠ gb524 ∧ k_ ≠ gb525 ∧ k_ ≠ gb526 ∧ k_ ≠ gb527) (fun k_ => ((fun k_ => ((P0_0_ k_ ∨ P0_1_ k_ ∨ P0_2_ k_) ∨ w.heap.size ≤ k_) ∧ some k_ ≠ (u528000 : Value).ownBlock ∧ some k_ ≠ (u528001 : Value).ownBlock ∧ k_ ≠ gb524 ∧ k_ ≠ gb525 ∧ k_ ≠ gb526 ∧ k_ ≠ gb527)) k_ ∧ some k_ ≠ (u528002 : Value).ownBlock) rfl rfl ?aP (fun _ hk => hk) ?aF ?aO ?aB ?aS ?aL ?_
             (case aP => exact (k51_mkF _ _ (⟨(rd_T51 l0_2 x8_3).f0, (rd_T51 l0_2 x8_3).f1, (rd_T51 l0_2 x8_3).f2⟩ : S51) (Kd.V_reads' (Kd.V_mono (ok' := (fun k_ => ((fun k_ => ((P0_0_ k_ ∨ P0_1_ k_ ∨ P0_2_ k_) ∨ w.heap.size ≤ k_) ∧ some k_ ≠ (u528000 : Value).ownBlock ∧ some k_ ≠ (u528001 : Value).ownBlock ∧ k_ ≠ gb524 ∧ k_ ≠ gb525 ∧ k_ ≠ gb526 ∧ k_ ≠ gb527)) k_ ∧ some k_ ≠ (u528002 : Value).ownBlock)) (HL551_1.out) (fun k_ hk => ⟨⟨hk.1, ⟨hk.2.1, ⟨hk.2.2.1, ⟨hk.2.2.2.2.1, ⟨hk.2.2.2.2.2.1, ⟨hk.2.2.2.2.2.2.1, hk.2.2.2.2.2.2.2⟩⟩⟩⟩⟩⟩, hk.2.2.2.1⟩))).2.1 (Kd.V_F (Kd.V_mono (ok' := (fun k_ => ((fun k_ => ((P0_0_ k_ ∨ P0_1_ k_ ∨ P0_2_ k_) ∨ w.heap.size ≤ k_) ∧ some k_ ≠ (u528000 : Value).ownBlock ∧ some k_ ≠ (u528001 : Value).ownBlock ∧ k_ ≠ gb524 ∧ k_ ≠ gb525 ∧ k_ ≠ gb526 ∧ k_ ≠ gb527)) k_ ∧ some k_ ≠ (u528002 : Value).ownBlock)) (HL551_1.out) (fun k_ hk => ⟨⟨hk.1, ⟨hk.2.1, ⟨hk.2.2.1, ⟨hk.2.2.2.2.1, ⟨hk.2.2.2.2.2.1, ⟨hk.2.2.2.2.2.2.1, hk.2.2.2.2.2.2.2⟩⟩⟩⟩⟩⟩, hk.2.2.2.1⟩))) (Kd.V_reads' (Kd.V_mono (ok' := (fun k_ => ((fun k_ => ((P0_0_ k_ ∨ P0_1_ k_ ∨ P0_2_ k_) ∨ w.heap.size ≤ k_) ∧ some k_ ≠ (u528000 : Value).ownBlock ∧ some k_ ≠ (u528001 : Value).ownBlock ∧ k_ ≠ gb524 ∧ k_ ≠ gb525 ∧ k_ ≠ gb526 ∧ k_ ≠ gb527)) k_ ∧ some k_ ≠ (u528002 : Value).ownBlock)) (HL551_2.out) (fun k_ hk => ⟨⟨hk.1, ⟨hk.2.1, ⟨hk.2.2.1, ⟨hk.2.2.2.2.1, ⟨hk.2.2.2.2.2.1, ⟨hk.2.2.2.2.2.2.1, hk.2.2.2.2.2.2.2⟩⟩⟩⟩⟩⟩, hk.2.2.2.1⟩))).2.1 (Kd.V_F (Kd.V_mono (ok' := (fun k_ => ((fun k_ => ((P0_0_ k_ ∨ P0_1_ k_ ∨ P0_2_ k_) ∨ w.heap.size ≤ k_) ∧ some k_ ≠ (u528000 : Value).ownBlock ∧ some k_ ≠ (u528001 : Value).ownBlock ∧ k_ ≠ gb524 ∧ k_ ≠ gb525 ∧ k_ ≠ gb526 ∧ k_ ≠ gb527)) k_ ∧ some k_ ≠ (u528002 : Value).ownBlock)) (HL551_2.out) (fun k_ hk => ⟨⟨hk.1, ⟨hk.2.1, ⟨hk.2.2.1, ⟨hk.2.2.2.2.1, ⟨hk.2.2.2.2.2.1, ⟨hk.2.2.2.2.2.2.1, hk.2.2.2.2.2.2.2⟩⟩⟩⟩⟩⟩, hk.2.2.2.1⟩)))))
             (case aB => exact (bl))
             (case aF => exact (fun k_ hk => ⟨(.inr (Nat.le_trans (below_size (bl)) hk)), Kd.fresh' (Kd.N_lt (by (with_reducible repeat (first | apply Kd.N_alloc | apply Kd.N_drewN | apply Kd.N_drew)); exact HO_528000.out)) k_ hk, Kd.fresh' (Kd.N_lt (by (with_reducible repeat (first | apply Kd.N_alloc | apply Kd.N_drewN | apply Kd.N_drew)); exact HO_528001.out)) k_ hk, Kd.freshB (kl BK524) k_ hk, Kd.freshB (kl BK525) k_ hk, Kd.freshB (kl BK526) k_ hk, Kd.freshB (kl BK527) k_ hk⟩))
             (case aO => exact (by (with_reducible repeat (first | apply Kd.N_alloc | apply Kd.N_drewN | apply Kd.N_drew)); exact HO_528002.out))
             (case aS => exact (below_size (bl)))
             (case aL => have := LMc99.out; omega)
             intro v553 w106 ho hb hg hat
             rw [← Ny552.out] at ho
             have HO554 := aM (ho)
             replace HO_525000 := aM (Kd.V_afterv (ok := (fun k_ => ((P0_0_ k_ ∨ P0_1_ k_ ∨ P0_2_ k_) ∨ w.heap.size ≤ k_) ∧ some k_ ≠ (u528000 : Value).ownBlock ∧ some k_ ≠ (u528001 : Value).ownBlock ∧ k_ ≠ gb524 ∧ k_ ≠ gb525 ∧ k_ ≠ gb526 ∧ k_ ≠ gb527)) (by (with_reducible repeat (first | apply Kd.V_alloc | apply Kd.V_drewN | apply Kd.V_drew)); exact Kd.V_mono HO_525000.out (fun _ hk => ⟨⟨hk.1, ⟨hk.2.1, ⟨hk.2.2.1, ⟨hk.2.2.2.2.1, ⟨hk.2.2.2.2.2.1, ⟨hk.2.2.2.2.2.2.1, hk.2.2.2.2.2.2.2⟩⟩⟩⟩⟩⟩, hk.2.2.2.1⟩)) hg hat)
             replace HO_525001 := aM (Kd.V_afterv (ok := (fun k_ => ((P0_0_ k_ ∨ P0_1_ k_ ∨ P0_2_ k_) ∨ w.heap.size ≤ k_) ∧ some k_ ≠ (u528000 : Value).ownBlock ∧ some k_ ≠ (u528001 : Value).ownBlock ∧ k_ ≠ gb524 ∧ k_ ≠ gb525 ∧ k_ ≠ gb526 ∧ k_ ≠ gb527)) (by (with_reducible repeat (first | apply Kd.V_alloc | apply Kd.V_drewN | apply Kd.V_drew)); exact Kd.V_mono HO_525001.out (fun _ hk => ⟨⟨hk.1, ⟨hk.2.1, ⟨hk.2.2.1, ⟨hk.2.2.2.2.1, ⟨hk.2.2.2.2.2.1, ⟨hk.2.2.2.2.2.2.1, hk.2.2.2.2.2.2.2⟩⟩⟩⟩⟩⟩, hk.2.2.2.1⟩)) hg hat)
             replace HO_525002 := aM (Kd.V_afterv (ok := (fun k_ => ((P0_0_ k_ ∨ P0_1_ k_ ∨ P0_2_ k_) ∨ w.heap.size ≤ k_) ∧ some k_ ≠ (u528000 : Value).ownBlock ∧ some k_ ≠ (u528001 : Value).ownBlock ∧ k_ ≠ gb524 ∧ k_ ≠ gb525 ∧ k_ ≠ gb526 ∧ k_ ≠ gb527)) (by (with_reducible repeat (first | apply Kd.V_alloc | apply Kd.V_drewN | apply Kd.V_drew)); exact Kd.V_mono HO_525002.out (fun _ hk => ⟨⟨hk.1, ⟨hk.2.1, ⟨hk.2.2.1, ⟨hk.2.2.2.2.1, ⟨hk.2.2.2.2.2.1, ⟨hk.2.2.2.2.2.2.1, hk.2.2.2.2.2.2.2⟩⟩⟩⟩⟩⟩, hk.2.2.2.1⟩)) hg hat)
             replace HO_528000 := aM (Kd.N_afterv (ok := (fun k_ => ((P0_0_ k_ ∨ P0_1_ k_ ∨ P0_2_ k_) ∨ w.heap.size ≤ k_) ∧ some k_ ≠ (u528001 : Value).ownBlock ∧ k_ ≠ gb524 ∧ k_ ≠ gb525 ∧ k_ ≠ gb526 ∧ k_ ≠ gb527)) (by (with_reducible repeat (first | apply Kd.N_alloc | apply Kd.N_drewN | apply Kd.N_drew)); exact Kd.N_mono HO_528000.out (fun _ hk => ⟨⟨hk.1, ⟨hk.2.1, ⟨hk.2.2.2.1, ⟨hk.2.2.2.2.1, ⟨hk.2.2.2.2.2.1, hk.2.2.2.2.2.2⟩⟩⟩⟩⟩, hk.2.2.1⟩)) hg hat)
             replace HO_528001 := aM (Kd.N_afterv (ok := (fun k_ => ((P0_0_ k_ ∨ P0_1_ k_ ∨ P0_2_ k_) ∨ w.heap.size ≤ k_) ∧ some k_ ≠ (u528000 : Value).ownBlock ∧ k_ ≠ gb524 ∧ k_ ≠ gb525 ∧ k_ ≠ gb526 ∧ k_ ≠ gb527)) (by (with_reducible repeat (first | apply Kd.N_alloc | apply Kd.N_drewN | apply Kd.N_drew)); exact Kd.N_mono HO_528001.out (fun _ hk => ⟨⟨hk.1, ⟨hk.2.1, ⟨hk.2.2.2.1, ⟨hk.2.2.2.2.1, ⟨hk.2.2.2.2.2.1, hk.2.2.2.2.2.2⟩⟩⟩⟩⟩, hk.2.2.1⟩)) hg hat)
             replace BK524 := aM (blk_grown (kl BK524) hg (Kd.N_ne HO_528002.out BK524.out (by decide)))
             replace BK525 := aM (blk_grown (kl BK525) hg (Kd.N_ne HO_528002.out BK525.out (by decide)))
             replace BK526 := aM (blk_grown (kl BK526) hg (Kd.N_ne HO_528002.out BK526.out (by decide)))
             replace BK527 := aM (blk_grown (kl BK527) hg (Kd.N_ne HO_528002.out BK527.out (by decide)))
             replace HB := aM (hb)
             clear HL551_1 HL551_2 HO_528002 ho hb hg hat
             obtain ⟨Ao107, co107, eo107⟩ := Kd.N_slice HO554.out
             (first | subst eo107 | (injection eo107 with f1_ f2_ f3_; have f4_ := f1_.symm; have f5_ := f3_.symm; clear f1_ f2_ f3_; subst f4_; subst f5_))
             refine hK.out _ _ ?_
             clear hK K
             refine norm_ (a' := ?_) ?_ ?_
             rotate_left
             ·show Act.put _ (some 101) _ = _
              simp only [Act.put, sA, sB, sC, i64_w, i32_w]
              rfl
             refine pure_ (i := 9) (N := some 102) (v := ?_) (a' := ?_) (ba 11 1023) rfl rfl (any_of HT_.out (by kernel_rfl)) (fun _ _ _ h => h) (Or.inl ⟨by rfl, ?_⟩) ?_ ?_
             rotate_left
             ·intro w'
              go_simp
              with_reducible rfl
             rotate_left
             ·simp only [Act.put, sA, sB, sC, i64_w, i32_w]
              rfl
             refine last_ (i := 10) (N := none) (ba 11 2047) rfl rfl (one_of HT_.out (by kernel_rfl)) (by decide) (fun K hK => ?_)
             have hs108 : w106.cell? ⟨gb527, 2, none⟩ = some (u528002) := (kC BK527.out 2).trans rfl
             have hfs108 := kF BK527.out 2
             have hns108_0 := NB524_527.out
             have hns108_1 := NB525_527.out
             have hns108_2 := NB526_527.out
             have hms108_0 := NB527_524.out
             have hms108_1 := NB527_525.out
             have hms108_2 := NB527_526.out
             refine skip_ (w1 := ?_) (by rfl) rfl ?_ ?_
             rotate_left
             ·go_simp
              rfl
             refine hK.out _ _ ?_
             clear hK K
             refine done_ (done_of HT_.out (by kernel_rfl)) ?_
             try go_wp2
             go_roundg k3
             case measure => have := HK1.out; have := HK2.out; have := HK3.out; omega
             case rel => exact ⟨(wrap64 (x8_3 + 1)), (y552), (.slice Ao107 y552.length co107), (by first | rfl | (simp; done) | (simp [*]; done)), H', ⟨by have := HK1.out; have := HK2.out; have := HK3.out; omega⟩, ⟨by (with_reducible repeat (first | apply Kd.V_alloc | apply Kd.V_drewN | apply Kd.V_drew)); exact Kd.V_mono (Kd.V_far (p := ⟨gb527, 2, none⟩) (Kd.V_mono HO_525000.out (fun k_ hk => (⟨hk, hk.1.2.2.2.2.2.2⟩ : _ ∧ k_ ≠ gb527))) (fun _ hk => hk.2) (.slice Ao107 y552.length co107)) (fun _ hk => ⟨hk.1.1.1, ⟨hk.1.1.2.1, ⟨hk.1.1.2.2.1, ⟨hk.1.2, ⟨hk.1.1.2.2.2.1, ⟨hk.1.1.2.2.2.2.1, ⟨hk.1.1.2.2.2.2.2.1, hk.1.1.2.2.2.2.2.2⟩⟩⟩⟩⟩⟩⟩)⟩, ⟨by (with_reducible repeat (first | apply Kd.V_alloc | apply Kd.V_drewN | apply Kd.V_drew)); exact Kd.V_mono (Kd.V_far (p := ⟨gb527, 2, none⟩) (Kd.V_mono HO_525001.out (fun k_ hk => (⟨hk, hk.1.2.2.2.2.2.2⟩ : _ ∧ k_ ≠ gb527))) (fun _ hk => hk.2) (.slice Ao107 y552.length co107)) (fun _ hk => ⟨hk.1.1.1, ⟨hk.1.1.2.1, ⟨hk.1.1.2.2.1, ⟨hk.1.2, ⟨hk.1.1.2.2.2.1, ⟨hk.1.1.2.2.2.2.1, ⟨hk.1.1.2.2.2.2.2.1, hk.1.1.2.2.2.2.2.2⟩⟩⟩⟩⟩⟩⟩)⟩, ⟨by (with_reducible repeat (first | apply Kd.V_alloc | apply Kd.V_drewN | apply Kd.V_drew)); exact Kd.V_mono (Kd.V_far (p := ⟨gb527, 2, none⟩) (Kd.V_mono HO_525002.out (fun k_ hk => (⟨hk, hk.1.2.2.2.2.2.2⟩ : _ ∧ k_ ≠ gb527))) (fun _ hk => hk.2) (.slice Ao107 y552.length co107)) (fun _ hk => ⟨hk.1.1.1, ⟨hk.1.1.2.1, ⟨hk.1.1.2.2.1, ⟨hk.1.2, ⟨hk.1.1.2.2.2.1, ⟨hk.1.1.2.2.2.2.1, ⟨hk.1.1.2.2.2.2.2.1, hk.1.1.2.2.2.2.2.2⟩⟩⟩⟩⟩⟩⟩)⟩, ⟨by (with_reducible repeat (first | apply Kd.N_alloc | apply Kd.N_drewN | apply Kd.N_drew)); exact Kd.N_mono (Kd.N_far (p := ⟨gb527, 2, none⟩) (Kd.N_mono HO_528000.out (fun k_ hk => (⟨hk, hk.1.2.2.2.2.2⟩ : _ ∧ k_ ≠ gb527))) (fun _ hk => hk.2) (.slice Ao107 y552.length co107)) (fun _ hk => ⟨hk.1.1.1, ⟨hk.1.1.2.1, ⟨hk.1.2, ⟨hk.1.1.2.2.1, ⟨hk.1.1.2.2.2.1, ⟨hk.1.1.2.2.2.2.1, hk.1.1.2.2.2.2.2⟩⟩⟩⟩⟩⟩)⟩, ⟨by (with_reducible repeat (first | apply Kd.N_alloc | apply Kd.N_drewN | apply Kd.N_drew)); exact Kd.N_mono (Kd.N_far (p := ⟨gb527, 2, none⟩) (Kd.N_mono HO_528001.out (fun k_ hk => (⟨hk, hk.1.2.2.2.2.2⟩ : _ ∧ k_ ≠ gb527))) (fun _ hk => hk.2) (.slice Ao107 y552.length co107)) (fun _ hk => ⟨hk.1.1.1, ⟨hk.1.1.2.1, ⟨hk.1.2, ⟨hk.1.1.2.2.1, ⟨hk.1.1.2.2.2.1, ⟨hk.1.1.2.2.2.2.1, hk.1.1.2.2.2.2.2⟩⟩⟩⟩⟩⟩)⟩, ⟨by (with_reducible repeat (first | apply Kd.N_alloc | apply Kd.N_drewN | apply Kd.N_drew)); exact Kd.N_mono (Kd.N_far (p := ⟨gb527, 2, none⟩) (Kd.N_mono HO554.out (fun k_ hk => (⟨hk, hk.2.2.2.2.2.2⟩ : _ ∧ k_ ≠ gb527))) (fun _ hk => hk.2) (.slice Ao107 y552.length co107)) (fun _ hk => ⟨hk.1.1, ⟨hk.1.2.1, ⟨hk.1.2.2.1, ⟨hk.1.2.2.2.1, ⟨hk.1.2.2.2.2.1, ⟨hk.1.2.2.2.2.2.1, hk.1.2.2.2.2.2.2⟩⟩⟩⟩⟩⟩)⟩, ⟨by (with_reducible repeat (first | refine kN ?_ _ | refine kD ?_ | refine kA ?_ _)); refine blk_far ?_ NB524_527.out _; (with_reducible repeat (first | refine kN ?_ _ | refine kD ?_ | refine kA ?_ _)); exact BK524.out⟩, ⟨by (with_reducible repeat (first | refine kN ?_ _ | refine kD ?_ | refine kA ?_ _)); refine blk_far ?_ NB525_527.out _; (with_reducible repeat (first | refine kN ?_ _ | refine kD ?_ | refine kA ?_ _)); exact BK525.out⟩, ⟨by (with_reducible repeat (first | refine kN ?_ _ | refine kD ?_ | refine kA ?_ _)); refine blk_far ?_ NB526_527.out _; (with_reducible repeat (first | refine kN ?_ _ | refine kD ?_ | refine kA ?_ _)); exact BK526.out⟩, ⟨by (with_reducible repeat (first | refine kN ?_ _ | refine kD ?_ | refine kA ?_ _)); refine kP (cs := #[u528000, u528001, u528002]) ?_ 2 _ rfl; (with_reducible repeat (first | refine kN ?_ _ | refine kD ?_ | refine kA ?_ _)); exact BK527.out⟩, ⟨bl⟩⟩
            ·rw [if_neg c99] at H
             exact absurd H (by simp)
           ·rw [if_neg c98] at H
            exact absurd H (by simp)
         ·rw [if_neg c79] at H
          have c79b0 : decide (x8_3 < (l0_2.length : Int)) = false := decide_eq_false c79
          clear c79
          simp only [Option.some.injEq, Prod.mk.injEq] at H
          obtain ⟨rfl, rfl, rfl⟩ := H
          have hnb109 := NB524_525.out
          have hnc109 := NB525_524.out
          have hnb110 := NB524_526.out
          have hnc110 := NB526_524.out
          have hnb111 := NB524_527.out
          have hnc111 := NB527_524.out
          obtain ⟨hcz112_0, hcz112_1, hcz112_2, hfz112_0, hfz112_1, hfz112_2⟩ := bc3 BK524
          have hnb113 := NB527_525.out
          have hnc113 := NB525_527.out
          have hnb114 := NB527_526.out
          have hnc114 := NB526_527.out
          obtain ⟨hcz115_0, hcz115_1, hcz115_2, hfz115_0, hfz115_1, hfz115_2⟩ := bc3 BK527
          obtain ⟨Ao116, co116, eo116⟩ := Kd.N_slice HO_528000.out
          subst eo116
          have hnb117 := NB526_525.out
          have hnc117 := NB525_526.out
          obtain ⟨hcz118_0, hcz118_1, hcz118_2, hfz118_0, hfz118_1, hfz118_2⟩ := bc3 BK526
          obtain ⟨Ao119, co119, eo119⟩ := Kd.N_slice HO_528001.out
          subst eo119
          obtain ⟨Ao120, co120, eo120⟩ := Kd.N_slice HO_528002.out
          subst eo120
          go_wp2
          refine bodyPost_ret (results_cell_row rfl _ _ gb526 26 #[.slice Ao116 x528000_1.length co116, .slice Ao119 x528001_2.length co119, .slice Ao120 x528002_3.length co120] (0, 0) _ rfl (by (with_reducible repeat (first | refine kN ?_ _ | refine kD ?_ | refine kA ?_ _)); refine kP (cs := #[.slice Ao116 x528000_1.length co116, .slice Ao119 x528001_2.length co119, .slice none 0 0]) ?_ 2 _ rfl; (with_reducible repeat (first | refine kN ?_ _ | refine kD ?_ | refine kA ?_ _)); refine kP (cs := #[.slice Ao116 x528000_1.length co116, .slice none 0 0, .slice none 0 0]) ?_ 1 _ rfl; (with_reducible repeat (first | refine kN ?_ _ | refine kD ?_ | refine kA ?_ _)); refine kP (cs := #[.slice none 0 0, .slice none 0 0, .slice none 0 0]) ?_ 0 _ rfl; (with_reducible repeat (first | refine kN ?_ _ | refine kD ?_ | refine kA ?_ _)); exact BK526.out) Try.underlying26 rfl (by kernel_rfl)) rfl ?_
          exact ⟨_, _, _, by first | rfl | (simp [errW_none, errW_some] <;> rfl) | (simp [*, errW_none, errW_some] <;> rfl), by (with_reducible repeat (first | apply Kd.N_alloc | apply Kd.N_drewN | apply Kd.N_drew)); exact Kd.N_mono (Kd.N_far (p := ⟨gb526, 2, none⟩) (Kd.N_far (p := ⟨gb526, 1, none⟩) (Kd.N_far (p := ⟨gb526, 0, none⟩) (Kd.N_mono HO_528000.out (fun k_ hk => (⟨hk, hk.2.2.2.2.2.1⟩ : _ ∧ k_ ≠ gb526))) (fun _ hk => hk.2) (.slice Ao116 x528000_1.length co116)) (fun _ hk => hk.2) (.slice Ao119 x528001_2.length co119)) (fun _ hk => hk.2) (.slice Ao120 x528002_3.length co120)) (fun _ hk => ⟨hk.1.1, ⟨hk.1.2.1, hk.1.2.2.1⟩⟩), by (with_reducible repeat (first | apply Kd.N_alloc | apply Kd.N_drewN | apply Kd.N_drew)); exact Kd.N_mono (Kd.N_far (p := ⟨gb526, 2, none⟩) (Kd.N_far (p := ⟨gb526, 1, none⟩) (Kd.N_far (p := ⟨gb526, 0, none⟩) (Kd.N_mono HO_528001.out (fun k_ hk => (⟨hk, hk.2.2.2.2.2.1⟩ : _ ∧ k_ ≠ gb526))) (fun _ hk => hk.2) (.slice Ao116 x528000_1.length co116)) (fun _ hk => hk.2) (.slice Ao119 x528001_2.length co119)) (fun _ hk => hk.2) (.slice Ao120 x528002_3.length co120)) (fun _ hk => ⟨hk.1.1, ⟨hk.1.2.1, hk.1.2.2.1⟩⟩), by (with_reducible repeat (first | apply Kd.N_alloc | apply Kd.N_drewN | apply Kd.N_drew)); exact Kd.N_mono (Kd.N_far (p := ⟨gb526, 2, none⟩) (Kd.N_far (p := ⟨gb526, 1, none⟩) (Kd.N_far (p := ⟨gb526, 0, none⟩) (Kd.N_mono HO_528002.out (fun k_ hk => (⟨hk, hk.2.2.2.2.2.1⟩ : _ ∧ k_ ≠ gb526))) (fun _ hk => hk.2) (.slice Ao116 x528000_1.length co116)) (fun _ hk => hk.2) (.slice Ao119 x528001_2.length co119)) (fun _ hk => hk.2) (.slice Ao120 x528002_3.length co120)) (fun _ hk => ⟨hk.1.1, ⟨hk.1.2.1, hk.1.2.2.1⟩⟩), bl⟩
end Go.Proofs.Ytgenbepicnbecaa.PAll
