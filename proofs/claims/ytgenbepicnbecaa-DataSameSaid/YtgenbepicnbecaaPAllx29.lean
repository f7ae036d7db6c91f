-- out of a driver of this session's prover over the kit's print: Lean checks it
import Derived.Test.YtgenbepicnbecaaPAllx0
import Derived.Test.YtgenbepicnbecaaPAllx22
import Derived.Test.YtgenbepicnbecaaPAllx23
namespace Go.Proofs.Ytgenbepicnbecaa.PAll
open Go.Proofs.YtgenbepicnbecaaG Go.Shelf Go.Lib
open Go.RowKit Go.Proofs.YtgenbepicnbecaaW.PrintWords Go.Proofs.YtgenbepicnbecaaW.PrintLast Go.Proofs.YtgenbepicnbecaaW.PrintMore
attribute [local go_sem] max2_int min2_int max_two min_two max_three min_three max_four min_four   -- for this text's walks alone
set_option linter.unusedVariables false
set_option linter.unusedSimpArgs false
mutual
def mapmakerref14_Same.j0 : Nat → Bool → List (S39) → List (S45) → List (S51) → List (S39) → List (S45) → List (S51) → Option (Bool)
 | 0, _, _, _, _, _, _, _ => none
 | k + 1, x32, x503000, x503001, x503002, x504000, x504001, x504002 => if x32 = true then (some false) else (mapmakerref14_Same.l0 k 0 x503000 x503001 x503002 x504000 x504001 x504002)
def mapmakerref14_Same.l0 : Nat → Int → List (S39) → List (S45) → List (S51) → List (S39) → List (S45) → List (S51) → Option (Bool)
 | 0, _, _, _, _, _, _, _ => none
 | k + 1, x5, x503000, x503001, x503002, x504000, x504001, x504002 => if x5 < (x503000.length : Int) then (if 0 ≤ x5 then (if x5 < (x504000.length : Int) then ((mapmakerref14_SameNode.f k ((rd_T39 x503000 x5).f0) ((rd_T39 x503000 x5).f1.f0) ((rd_T39 x503000 x5).f1.f1) ((rd_T39 x503000 x5).f2) ((rd_T39 x504000 x5).f0) ((rd_T39 x504000 x5).f1.f0) ((rd_T39 x504000 x5).f1.f1) ((rd_T39 x504000 x5).f2)).bind fun t506 => (if t506 = true then (mapmakerref14_Same.l0 k (wrap64 (x5 + 1)) x503000 x503001 x503002 x504000 x504001 x504002) else (some false))) else (none)) else (none)) else (mapmakerref14_Same.l1 k 0 x503000 x503001 x503002 x504000 x504001 x504002)
def mapmakerref14_Same.l1 : Nat → Int → List (S39) → List (S45) → List (S51) → List (S39) → List (S45) → List (S51) → Option (Bool)
 | 0, _, _, _, _, _, _, _ => none
 | k + 1, x6, x503000, x503001, x503002, x504000, x504001, x504002 => if x6 < (x503001.length : Int) then (if 0 ≤ x6 then (if x6 < (x504001.length : Int) then ((mapmakerref14_SameWay.f k ((rd_T45 x503001 x6).f0) ((rd_T45 x503001 x6).f1) ((rd_T45 x503001 x6).f2) ((rd_T45 x504001 x6).f0) ((rd_T45 x504001 x6).f1) ((rd_T45 x504001 x6).f2)).bind fun t509 => (if t509 = true then (mapmakerref14_Same.l1 k (wrap64 (x6 + 1)) x503000 x503001 x503002 x504000 x504001 x504002) else (some false))) else (none)) else (none)) else (mapmakerref14_Same.l2 k 0 x503000 x503001 x503002 x504000 x504001 x504002)
def mapmakerref14_Same.l2 : Nat → Int → List (S39) → List (S45) → List (S51) → List (S39) → List (S45) → List (S51) → Option (Bool)
 | 0, _, _, _, _, _, _, _ => none
 | k + 1, x7, x503000, x503001, x503002, x504000, x504001, x504002 => if x7 < (x503002.length : Int) then (if 0 ≤ x7 then (if x7 < (x504002.length : Int) then ((mapmakerref14_SameRel.f k ((rd_T51 x503002 x7).f0) ((rd_T51 x503002 x7).f1) ((rd_T51 x503002 x7).f2) ((rd_T51 x504002 x7).f0) ((rd_T51 x504002 x7).f1) ((rd_T51 x504002 x7).f2)).bind fun t512 => (if t512 = true then (mapmakerref14_Same.l2 k (wrap64 (x7 + 1)) x503000 x503001 x503002 x504000 x504001 x504002) else (some false))) else (none)) else (none)) else (some true)
end
def mapmakerref14_Same.f (k : Nat) (l0_0 : List (S39)) (l0_1 : List (S45)) (l0_2 : List (S51)) (l1_0 : List (S39)) (l1_1 : List (S45)) (l1_2 : List (S51)) : Option (Bool) := if (l0_0.length : Int) = (l1_0.length : Int) then (if (l0_1.length : Int) = (l1_1.length : Int) then (mapmakerref14_Same.j0 k ((l0_2.length : Int) != (l1_2.length : Int)) l0_0 l0_1 l0_2 l1_0 l1_1 l1_2) else (mapmakerref14_Same.j0 k true l0_0 l0_1 l0_2 l1_0 l1_1 l1_2)) else (mapmakerref14_Same.j0 k true l0_0 l0_1 l0_2 l1_0 l1_1 l1_2)
theorem mapmakerref14_Same.mono_l : ∀ k, (∀ y0 y1 y2 y3 y4 y5 y6, LeO (mapmakerref14_Same.j0 k y0 y1 y2 y3 y4 y5 y6) (mapmakerref14_Same.j0 (k + 1) y0 y1 y2 y3 y4 y5 y6)) ∧ (∀ y0 y1 y2 y3 y4 y5 y6, LeO (mapmakerref14_Same.l0 k y0 y1 y2 y3 y4 y5 y6) (mapmakerref14_Same.l0 (k + 1) y0 y1 y2 y3 y4 y5 y6)) ∧ (∀ y0 y1 y2 y3 y4 y5 y6, LeO (mapmakerref14_Same.l1 k y0 y1 y2 y3 y4 y5 y6) (mapmakerref14_Same.l1 (k + 1) y0 y1 y2 y3 y4 y5 y6)) ∧ (∀ y0 y1 y2 y3 y4 y5 y6, LeO (mapmakerref14_Same.l2 k y0 y1 y2 y3 y4 y5 y6) (mapmakerref14_Same.l2 (k + 1) y0 y1 y2 y3 y4 y5 y6))
 | 0 => ⟨fun _ _ _ _ _ _ _ r h => by simp [mapmakerref14_Same.j0] at h, fun _ _ _ _ _ _ _ r h => by simp [mapmakerref14_Same.l0] at h, fun _ _ _ _ _ _ _ r h => by simp [mapmakerref14_Same.l1] at h, fun _ _ _ _ _ _ _ r h => by simp [mapmakerref14_Same.l2] at h⟩
 | k + 1 => by
  obtain ⟨ih0, ih1, ih2, ih3⟩ := mapmakerref14_Same.mono_l k
  refine ⟨?_, ?_, ?_, ?_⟩
  ·intro y0 y1 y2 y3 y4 y5 y6
   unfold mapmakerref14_Same.j0
   repeat' first
   | (with_reducible exact ih0 _ _ _ _ _ _ _)
   | (with_reducible exact ih1 _ _ _ _ _ _ _)
   | (with_reducible exact ih2 _ _ _ _ _ _ _)
   | (with_reducible exact ih3 _ _ _ _ _ _ _)
   | (with_reducible exact mapmakerref14_SameNode.mono _ _ _ _ _ _ _ _ _)
   | (with_reducible exact mapmakerref14_SameRel.mono _ _ _ _ _ _ _)
   | (with_reducible exact mapmakerref14_SameWay.mono _ _ _ _ _ _ _)
   | (with_reducible exact LeO.refl _)
   | (with_reducible exact LeO.none _)
   | (with_reducible refine LeO.ite ?_ ?_)
   | (with_reducible refine LeO.bind ?_ (fun _ => ?_))
   | exact ih0 _ _ _ _ _ _ _
   | exact ih1 _ _ _ _ _ _ _
   | exact ih2 _ _ _ _ _ _ _
   | exact ih3 _ _ _ _ _ _ _
   | exact mapmakerref14_SameNode.mono _ _ _ _ _ _ _ _ _
   | exact mapmakerref14_SameRel.mono _ _ _ _ _ _ _
   | exact mapmakerref14_SameWay.mono _ _ _ _ _ _ _
   | exact LeO.none _
   | refine LeO.ite ?_ ?_
   | refine LeO.bind ?_ (fun _ => ?_)
  ·intro y0 y1 y2 y3 y4 y5 y6
   unfold mapmakerref14_Same.l0
   repeat' first
   | (with_reducible exact ih0 _ _ _ _ _ _ _)
   | (with_reducible exact ih1 _ _ _ _ _ _ _)
   | (with_reducible exact ih2 _ _ _ _ _ _ _)
   | (with_reducible exact ih3 _ _ _ _ _ _ _)
   | (with_reducible exact mapmakerref14_SameNode.mono _ _ _ _ _ _ _ _ _)
   | (with_reducible exact mapmakerref14_SameRel.mono _ _ _ _ _ _ _)
   | (with_reducible exact mapmakerref14_SameWay.mono _ _ _ _ _ _ _)
   | (with_reducible exact LeO.refl _)
   | (with_reducible exact LeO.none _)
   | (with_reducible refine LeO.ite ?_ ?_)
   | (with_reducible refine LeO.bind ?_ (fun _ => ?_))
   | exact ih0 _ _ _ _ _ _ _
   | exact ih1 _ _ _ _ _ _ _
   | exact ih2 _ _ _ _ _ _ _
   | exact ih3 _ _ _ _ _ _ _
   | exact mapmakerref14_SameNode.mono _ _ _ _ _ _ _ _ _
   | exact mapmakerref14_SameRel.mono _ _ _ _ _ _ _
   | exact mapmakerref14_SameWay.mono _ _ _ _ _ _ _
   | exact LeO.none _
   | refine LeO.ite ?_ ?_
   | refine LeO.bind ?_ (fun _ => ?_)
  ·intro y0 y1 y2 y3 y4 y5 y6
   unfold mapmakerref14_Same.l1
   repeat' first
   | (with_reducible exact ih0 _ _ _ _ _ _ _)
   | (with_reducible exact ih1 _ _ _ _ _ _ _)
   | (with_reducible exact ih2 _ _ _ _ _ _ _)
   | (with_reducible exact ih3 _ _ _ _ _ _ _)
   | (with_reducible exact mapmakerref14_SameNode.mono _ _ _ _ _ _ _ _ _)
   | (with_reducible exact mapmakerref14_SameRel.mono _ _ _ _ _ _ _)
   | (with_reducible exact mapmakerref14_SameWay.mono _ _ _ _ _ _ _)
   | (with_reducible exact LeO.refl _)
   | (with_reducible exact LeO.none _)
   | (with_reducible refine LeO.ite ?_ ?_)
   | (with_reducible refine LeO.bind ?_ (fun _ => ?_))
   | exact ih0 _ _ _ _ _ _ _
   | exact ih1 _ _ _ _ _ _ _
   | exact ih2 _ _ _ _ _ _ _
   | exact ih3 _ _ _ _ _ _ _
   | exact mapmakerref14_SameNode.mono _ _ _ _ _ _ _ _ _
   | exact mapmakerref14_SameRel.mono _ _ _ _ _ _ _
   | exact mapmakerref14_SameWay.mono _ _ _ _ _ _ _
   | exact LeO.none _
   | refine LeO.ite ?_ ?_
   | refine LeO.bind ?_ (fun _ => ?_)
  ·intro y0 y1 y2 y3 y4 y5 y6
   unfold mapmakerref14_Same.l2
   repeat' first
   | (with_reducible exact ih0 _ _ _ _ _ _ _)
   | (with_reducible exact ih1 _ _ _ _ _ _ _)
   | (with_reducible exact ih2 _ _ _ _ _ _ _)
   | (with_reducible exact ih3 _ _ _ _ _ _ _)
   | (with_reducible exact mapmakerref14_SameNode.mono _ _ _ _ _ _ _ _ _)
   | (with_reducible exact mapmakerref14_SameRel.mono _ _ _ _ _ _ _)
   | (with_reducible exact mapmakerref14_SameWay.mono _ _ _ _ _ _ _)
   | (with_reducible exact LeO.refl _)
   | (with_reducible exact LeO.none _)
   | (with_reducible refine LeO.ite ?_ ?_)
   | (with_reducible refine LeO.bind ?_ (fun _ => ?_))
   | exact ih0 _ _ _ _ _ _ _
   | exact ih1 _ _ _ _ _ _ _
   | exact ih2 _ _ _ _ _ _ _
   | exact ih3 _ _ _ _ _ _ _
   | exact mapmakerref14_SameNode.mono _ _ _ _ _ _ _ _ _
   | exact mapmakerref14_SameRel.mono _ _ _ _ _ _ _
   | exact mapmakerref14_SameWay.mono _ _ _ _ _ _ _
   | exact LeO.none _
   | refine LeO.ite ?_ ?_
   | refine LeO.bind ?_ (fun _ => ?_)
theorem mapmakerref14_Same.mono : ∀ a0 a1 a2 a3 a4 a5 k, LeO (mapmakerref14_Same.f k a0 a1 a2 a3 a4 a5) (mapmakerref14_Same.f (k + 1) a0 a1 a2 a3 a4 a5) := by
 intro a0 a1 a2 a3 a4 a5 k
 obtain ⟨ih0, ih1, ih2, ih3⟩ := mapmakerref14_Same.mono_l k
 unfold mapmakerref14_Same.f
 repeat' first
   | (with_reducible exact ih0 _ _ _ _ _ _ _)
   | (with_reducible exact ih1 _ _ _ _ _ _ _)
   | (with_reducible exact ih2 _ _ _ _ _ _ _)
   | (with_reducible exact ih3 _ _ _ _ _ _ _)
   | (with_reducible exact mapmakerref14_SameNode.mono _ _ _ _ _ _ _ _ _)
   | (with_reducible exact mapmakerref14_SameRel.mono _ _ _ _ _ _ _)
   | (with_reducible exact mapmakerref14_SameWay.mono _ _ _ _ _ _ _)
   | (with_reducible exact LeO.refl _)
   | (with_reducible exact LeO.none _)
   | (with_reducible refine LeO.ite ?_ ?_)
   | (with_reducible refine LeO.bind ?_ (fun _ => ?_))
   | exact ih0 _ _ _ _ _ _ _
   | exact ih1 _ _ _ _ _ _ _
   | exact ih2 _ _ _ _ _ _ _
   | exact ih3 _ _ _ _ _ _ _
   | exact mapmakerref14_SameNode.mono _ _ _ _ _ _ _ _ _
   | exact mapmakerref14_SameRel.mono _ _ _ _ _ _ _
   | exact mapmakerref14_SameWay.mono _ _ _ _ _ _ _
   | exact LeO.none _
   | refine LeO.ite ?_ ?_
   | refine LeO.bind ?_ (fun _ => ?_)
def mapmakerref14_Same.T6 : Bool × List (List Nat × List Nat) := (true, [([], []), ([0], [0]), ([], []), ([1, 2], [1, 2]), ([3], [3]), ([], []), ([5], [5]), ([], []), ([6, 7], [6, 7]), ([8], [8]), ([4, 9], [4, 9]), ([10], [10])])
def mapmakerref14_Same.B6 : List Nat := [0, 1, 0, 7, 15, 0, 32, 0, 224, 480, 1023, 2047]
theorem mapmakerref14_Same.tab6 : rtab .any (opsOf Try.f32 6) = mapmakerref14_Same.T6 := by kernel_rfl
theorem mapmakerref14_Same.bits6 : waitsOk mapmakerref14_Same.T6.2 mapmakerref14_Same.B6 = true := by kernel_rfl
def mapmakerref14_Same.T11 : Bool × List (List Nat × List Nat) := (true, [([], []), ([0], [0]), ([], []), ([1, 2], [1, 2]), ([3], [3]), ([], []), ([5], [5]), ([], []), ([6, 7], [6, 7]), ([8], [8]), ([4, 9], [4, 9]), ([10], [10])])
def mapmakerref14_Same.B11 : List Nat := [0, 1, 0, 7, 15, 0, 32, 0, 224, 480, 1023, 2047]
theorem mapmakerref14_Same.tab11 : rtab .any (opsOf Try.f32 11) = mapmakerref14_Same.T11 := by kernel_rfl
theorem mapmakerref14_Same.bits11 : waitsOk mapmakerref14_Same.T11.2 mapmakerref14_Same.B11 = true := by kernel_rfl
def mapmakerref14_Same.T16 : Bool × List (List Nat × List Nat) := (true, [([], []), ([0], [0]), ([], []), ([1, 2], [1, 2]), ([3], [3]), ([], []), ([5], [5]), ([], []), ([6, 7], [6, 7]), ([8], [8]), ([4, 9], [4, 9]), ([10], [10])])
def mapmakerref14_Same.B16 : List Nat := [0, 1, 0, 7, 15, 0, 32, 0, 224, 480, 1023, 2047]
theorem mapmakerref14_Same.tab16 : rtab .any (opsOf Try.f32 16) = mapmakerref14_Same.T16 := by kernel_rfl
theorem mapmakerref14_Same.bits16 : waitsOk mapmakerref14_Same.T16.2 mapmakerref14_Same.B16 = true := by kernel_rfl
set_option maxHeartbeats 8000000 in
set_option maxRecDepth 100000 in
theorem mapmakerref14_Same.calls (k : Nat) (A0_0 : Option Addr) (c0_0 : Nat) (l0_0 : List (S39)) (A0_1 : Option Addr) (c0_1 : Nat) (l0_1 : List (S45)) (A0_2 : Option Addr) (c0_2 : Nat) (l0_2 : List (S51)) (A1_0 : Option Addr) (c1_0 : Nat) (l1_0 : List (S39)) (A1_1 : Option Addr) (c1_1 : Nat) (l1_1 : List (S45)) (A1_2 : Option Addr) (c1_2 : Nat) (l1_2 : List (S51)) (r : Bool) (w : World) (hr0_0 : Kd.C k39 w A0_0 l0_0.length l0_0) (hc0_0 : l0_0.length ≤ c0_0) (hr0_1 : Kd.C k45 w A0_1 l0_1.length l0_1) (hc0_1 : l0_1.length ≤ c0_1) (hr0_2 : Kd.C k51 w A0_2 l0_2.length l0_2) (hc0_2 : l0_2.length ≤ c0_2) (hr1_0 : Kd.C k39 w A1_0 l1_0.length l1_0) (hc1_0 : l1_0.length ≤ c1_0) (hr1_1 : Kd.C k45 w A1_1 l1_1.length l1_1) (hc1_1 : l1_1.length ≤ c1_1) (hr1_2 : Kd.C k51 w A1_2 l1_2.length l1_2) (hc1_2 : l1_2.length ≤ c1_2) (h : mapmakerref14_Same.f k l0_0 l0_1 l0_2 l1_0 l1_1 l1_2 = some r) :
  Calls Try.prog 32 #[.agg #[.slice A0_0 l0_0.length c0_0, .slice A0_1 l0_1.length c0_1, .slice A0_2 l0_2.length c0_2], .agg #[.slice A1_0 l1_0.length c1_0, .slice A1_1 l1_1.length c1_1, .slice A1_2 l1_2.length c1_2]] w fun e w' => e = .returned (.bool r) ∧ Below w.heap.size w w' := by
 have hu26 := Try.underlying26
 have hu39 := Try.underlying39
 have hu45 := Try.underlying45
 have hu51 := Try.underlying51
 have HR0_0 := aM hr0_0
 have HC0_0 := aM hc0_0
 clear hr0_0 hc0_0
 have HR0_1 := aM hr0_1
 have HC0_1 := aM hc0_1
 clear hr0_1 hc0_1
 have HR0_2 := aM hr0_2
 have HC0_2 := aM hc0_2
 clear hr0_2 hc0_2
 have HR1_0 := aM hr1_0
 have HC1_0 := aM hc1_0
 clear hr1_0 hc1_0
 have HR1_1 := aM hr1_1
 have HC1_1 := aM hc1_1
 clear hr1_1 hc1_1
 have HR1_2 := aM hr1_2
 have HC1_2 := aM hc1_2
 clear hr1_2 hc1_2
 have HB := aM (Below.refl w.heap.size w)
 have H : (if (l0_0.length : Int) = (l1_0.length : Int) then (if (l0_1.length : Int) = (l1_1.length : Int) then (mapmakerref14_Same.j0 k ((l0_2.length : Int) != (l1_2.length : Int)) l0_0 l0_1 l0_2 l1_0 l1_1 l1_2) else (mapmakerref14_Same.j0 k true l0_0 l0_1 l0_2 l1_0 l1_1 l1_2)) else (mapmakerref14_Same.j0 k true l0_0 l0_1 l0_2 l1_0 l1_1 l1_2)) = some r := h
 clear h
 have HC3 := aM H
 clear H
 go_enter Try.func32, Try.ntmps32
 go_upto_region 1 with (first | ((with_reducible refine gate_dst (N := 2) rfl ?_); (try (refine gate_guard (by rfl) ?_; dsimp only)); refine bx (N := 2) (cs := #[.slice A0_0 l0_0.length c0_0, .slice A0_1 l0_1.length c0_1, .slice A0_2 l0_2.length c0_2]) (t := 26) ?_; intro gb502 hg w4 hbox hb; have n0_ := aM (bS (bl) hb); have n1_ := aM (hbox); have n3_ := aM (gw (w := w) hg); clear HB; have HB := n0_; have BK502 := n1_; have GE502 := n3_; clear n0_ n1_ n3_ hb hbox hg) | ((with_reducible refine gate_dst (N := 3) rfl ?_); (try (refine gate_guard (by rfl) ?_; dsimp only)); refine bx (N := 3) (cs := #[.slice A1_0 l1_0.length c1_0, .slice A1_1 l1_1.length c1_1, .slice A1_2 l1_2.length c1_2]) (t := 26) ?_; intro gb503 hg w5 hbox hb; have n0_ := aM (kB (kl BK502) hb); have n1_ := aM (bS (bl) hb); have n2_ := aM (hbox); have n4_ := aM (gw (w := w) hg); have n5_ := aM (nb BK502 hg); have n6_ := aM (nb BK502 hg).symm; clear BK502 HB; have BK502 := n0_; have HB := n1_; have BK503 := n2_; have GE503 := n4_; have NB502_503 := n5_; have NB503_502 := n6_; clear n0_ n1_ n2_ n4_ n5_ n6_ hb hbox hg))
 (try simp only [Act.put, sA, sB, sC])
 go_cut [32] (fun v32 wc => ∃ (kq : Nat) (x32_2 : Bool), v32 = .bool x32_2 ∧ Aside0 (mapmakerref14_Same.j0 kq x32_2 l0_0 l0_1 l0_2 l1_0 l1_1 l1_2 = some r) ∧ Aside0 (kq ≤ k) ∧ Aside0 (wc.heap[gb502]? = some (.cells #[(.slice A0_0 l0_0.length c0_0), (.slice A0_1 l0_1.length c0_1), (.slice A0_2 l0_2.length c0_2)] 26 (0, 0))) ∧ Aside0 (wc.heap[gb503]? = some (.cells #[(.slice A1_0 l1_0.length c1_0), (.slice A1_1 l1_1.length c1_1), (.slice A1_2 l1_2.length c1_2)] 26 (0, 0))) ∧ Aside0 (Below w.heap.size w wc))
 case first =>
  have H := HC3.out
  clear HC3
  by_cases c6 : (l0_0.length : Int) = (l1_0.length : Int)
  ·rw [if_pos c6] at H
   have c6b0 : ((l0_0.length : Int) == (l1_0.length : Int)) = true := beq_iff_eq.mpr c6
   have c6b1 : ((l0_0.length : Int) != (l1_0.length : Int)) = false := bne_eq_false_iff_eq.mpr c6
   have c6b2 : (l0_0.length == l1_0.length) = true := by first | simpa using c6 | (simp at c6 ⊢; omega)
   clear c6
   (first | rw [c6b0] | (simp only [i64_w, i32_w]; rw [c6b0]) | skip)
   by_cases c7 : (l0_1.length : Int) = (l1_1.length : Int)
   ·rw [if_pos c7] at H
    have c7b0 : ((l0_1.length : Int) == (l1_1.length : Int)) = true := beq_iff_eq.mpr c7
    have c7b1 : ((l0_1.length : Int) != (l1_1.length : Int)) = false := bne_eq_false_iff_eq.mpr c7
    have c7b2 : (l0_1.length == l1_1.length) = true := by first | simpa using c7 | (simp at c7 ⊢; omega)
    clear c7
    have H' := aM H
    clear H
    have hnb8 := NB502_503.out
    have hnc8 := NB503_502.out
    have hcz9_0 : w5.cell? ⟨gb502, 0, none⟩ = some (.slice A0_0 l0_0.length c0_0) := (kC BK502.out 0).trans rfl
    have hcz9_1 : w5.cell? ⟨gb502, 1, none⟩ = some (.slice A0_1 l0_1.length c0_1) := (kC BK502.out 1).trans rfl
    have hcz9_2 : w5.cell? ⟨gb502, 2, none⟩ = some (.slice A0_2 l0_2.length c0_2) := (kC BK502.out 2).trans rfl
    have hfz9_0 := kF BK502.out 0
    have hfz9_1 := kF BK502.out 1
    have hfz9_2 := kF BK502.out 2
    have hcz10_0 : w5.cell? ⟨gb503, 0, none⟩ = some (.slice A1_0 l1_0.length c1_0) := (kC BK503.out 0).trans rfl
    have hcz10_1 : w5.cell? ⟨gb503, 1, none⟩ = some (.slice A1_1 l1_1.length c1_1) := (kC BK503.out 1).trans rfl
    have hcz10_2 : w5.cell? ⟨gb503, 2, none⟩ = some (.slice A1_2 l1_2.length c1_2) := (kC BK503.out 2).trans rfl
    have hfz10_0 := kF BK503.out 0
    have hfz10_1 := kF BK503.out 1
    have hfz10_2 := kF BK503.out 2
    go_wp2
    go_meet
    case rel => exact ⟨_, (((l0_2.length : Int) != (l1_2.length : Int))), (by first | rfl | (simp; done) | (simp [*]; done)), H', ⟨by first | omega | exact Nat.le_refl _⟩, ⟨by (with_reducible repeat (first | refine kN ?_ _ | refine kD ?_ | refine kA ?_ _)); exact BK502.out⟩, ⟨by (with_reducible repeat (first | refine kN ?_ _ | refine kD ?_ | refine kA ?_ _)); exact BK503.out⟩, ⟨bl⟩⟩
   ·rw [if_neg c7] at H
    have c7b0 : ((l0_1.length : Int) == (l1_1.length : Int)) = false := beq_eq_false_iff_ne.mpr c7
    have c7b1 : ((l0_1.length : Int) != (l1_1.length : Int)) = true := bne_iff_ne.mpr c7
    have c7b2 : (l0_1.length == l1_1.length) = false := by first | simpa using c7 | (simp at c7 ⊢; omega)
    have H' := aM H
    clear H
    have hnb11 := NB502_503.out
    have hnc11 := NB503_502.out
    have hcz12_0 : w5.cell? ⟨gb502, 0, none⟩ = some (.slice A0_0 l0_0.length c0_0) := (kC BK502.out 0).trans rfl
    have hcz12_1 : w5.cell? ⟨gb502, 1, none⟩ = some (.slice A0_1 l0_1.length c0_1) := (kC BK502.out 1).trans rfl
    have hcz12_2 : w5.cell? ⟨gb502, 2, none⟩ = some (.slice A0_2 l0_2.length c0_2) := (kC BK502.out 2).trans rfl
    have hfz12_0 := kF BK502.out 0
    have hfz12_1 := kF BK502.out 1
    have hfz12_2 := kF BK502.out 2
    have hcz13_0 : w5.cell? ⟨gb503, 0, none⟩ = some (.slice A1_0 l1_0.length c1_0) := (kC BK503.out 0).trans rfl
    have hcz13_1 : w5.cell? ⟨gb503, 1, none⟩ = some (.slice A1_1 l1_1.length c1_1) := (kC BK503.out 1).trans rfl
    have hcz13_2 : w5.cell? ⟨gb503, 2, none⟩ = some (.slice A1_2 l1_2.length c1_2) := (kC BK503.out 2).trans rfl
    have hfz13_0 := kF BK503.out 0
    have hfz13_1 := kF BK503.out 1
    have hfz13_2 := kF BK503.out 2
    go_wp2
    go_meet
    case rel => exact ⟨_, (true), (by first | rfl | (simp; done) | (simp [*]; done)), H', ⟨by first | omega | exact Nat.le_refl _⟩, ⟨by (with_reducible repeat (first | refine kN ?_ _ | refine kD ?_ | refine kA ?_ _)); exact BK502.out⟩, ⟨by (with_reducible repeat (first | refine kN ?_ _ | refine kD ?_ | refine kA ?_ _)); exact BK503.out⟩, ⟨bl⟩⟩
  ·rw [if_neg c6] at H
   have c6b0 : ((l0_0.length : Int) == (l1_0.length : Int)) = false := beq_eq_false_iff_ne.mpr c6
   have c6b1 : ((l0_0.length : Int) != (l1_0.length : Int)) = true := bne_iff_ne.mpr c6
   have c6b2 : (l0_0.length == l1_0.length) = false := by first | simpa using c6 | (simp at c6 ⊢; omega)
   (first | rw [c6b0] | (simp only [i64_w, i32_w]; rw [c6b0]) | skip)
   have H' := aM H
   clear H
   have hnb14 := NB502_503.out
   have hnc14 := NB503_502.out
   have hcz15_0 : w5.cell? ⟨gb502, 0, none⟩ = some (.slice A0_0 l0_0.length c0_0) := (kC BK502.out 0).trans rfl
   have hcz15_1 : w5.cell? ⟨gb502, 1, none⟩ = some (.slice A0_1 l0_1.length c0_1) := (kC BK502.out 1).trans rfl
   have hcz15_2 : w5.cell? ⟨gb502, 2, none⟩ = some (.slice A0_2 l0_2.length c0_2) := (kC BK502.out 2).trans rfl
   have hfz15_0 := kF BK502.out 0
   have hfz15_1 := kF BK502.out 1
   have hfz15_2 := kF BK502.out 2
   have hcz16_0 : w5.cell? ⟨gb503, 0, none⟩ = some (.slice A1_0 l1_0.length c1_0) := (kC BK503.out 0).trans rfl
   have hcz16_1 : w5.cell? ⟨gb503, 1, none⟩ = some (.slice A1_1 l1_1.length c1_1) := (kC BK503.out 1).trans rfl
   have hcz16_2 : w5.cell? ⟨gb503, 2, none⟩ = some (.slice A1_2 l1_2.length c1_2) := (kC BK503.out 2).trans rfl
   have hfz16_0 := kF BK503.out 0
   have hfz16_1 := kF BK503.out 1
   have hfz16_2 := kF BK503.out 2
   go_wp2
   go_meet
   case rel => exact ⟨_, (true), (by first | rfl | (simp; done) | (simp [*]; done)), H', ⟨by first | omega | exact Nat.le_refl _⟩, ⟨by (with_reducible repeat (first | refine kN ?_ _ | refine kD ?_ | refine kA ?_ _)); exact BK502.out⟩, ⟨by (with_reducible repeat (first | refine kN ?_ _ | refine kD ?_ | refine kA ?_ _)); exact BK503.out⟩, ⟨bl⟩⟩
 case rest =>
  clear HC3
  try clear c1
  try clear p2
  try clear c3
  try clear c6
  try clear c6b0
  try clear c6b1
  try clear c6b2
  try clear c7
  try clear c7b0
  try clear c7b1
  try clear c7b2
  try clear c8
  try clear c11
  try clear c14
  try clear hcz10_0 hcz10_1 hcz10_2 hfz10_0 hfz10_1 hfz10_2
  try clear hcz12_0 hcz12_1 hcz12_2 hfz12_0 hfz12_1 hfz12_2
  try clear hcz13_0 hcz13_1 hcz13_2 hfz13_0 hfz13_1 hfz13_2
  try clear hcz15_0 hcz15_1 hcz15_2 hfz15_0 hfz15_1 hfz15_2
  try clear hcz16_0 hcz16_1 hcz16_2 hfz16_0 hfz16_1 hfz16_2
  try clear hcz9_0 hcz9_1 hcz9_2 hfz9_0 hfz9_1 hfz9_2
  obtain ⟨kq, x32_2, rfl, HA, HJ2, BK502, BK503, HB⟩ := hcut
  cases kq with
  | zero => exact absurd HA.out (by simp [mapmakerref14_Same.j0])
  | succ kj2 =>
   have H := HA.out
   clear HA
   simp only [mapmakerref14_Same.j0] at H
   by_cases c17 : x32_2 = true
   ·subst c17
    have H1 : (some false) = some r := by rw [if_pos rfl] at H; exact H
    clear H
    have H := H1
    clear H1
    obtain rfl := Option.some.inj H
    go_wp2
    go_ret
    exact ⟨by first | rfl | (simp [errW_none, errW_some] <;> rfl) | (simp [*, errW_none, errW_some] <;> rfl), bl⟩
   ·replace c17 := Bool.eq_false_iff.mpr c17
    subst c17
    have H1 : (mapmakerref14_Same.l0 kj2 0 l0_0 l0_1 l0_2 l1_0 l1_1 l1_2) = some r := by rw [if_neg (show ¬ (false = true) by decide)] at H; exact H
    clear H
    have H := H1
    clear H1
    have H' := aM H
    clear H
    go_wp2
    go_loopg [5] kj2 (fun kq v5 w' => ∃ (x5_2 : Int), v5 = .int .i64 x5_2 ∧ Aside0 (mapmakerref14_Same.l0 kq x5_2 l0_0 l0_1 l0_2 l1_0 l1_1 l1_2 = some r) ∧ Aside0 (kq ≤ kj2) ∧ Aside0 (w'.heap[gb502]? = some (.cells #[(.slice A0_0 l0_0.length c0_0), (.slice A0_1 l0_1.length c0_1), (.slice A0_2 l0_2.length c0_2)] 26 (0, 0))) ∧ Aside0 (w'.heap[gb503]? = some (.cells #[(.slice A1_0 l1_0.length c1_0), (.slice A1_1 l1_1.length c1_1), (.slice A1_2 l1_2.length c1_2)] 26 (0, 0))) ∧ Aside0 (Below w.heap.size w w'))
    case atStart => exact ⟨(0), (by first | rfl | (simp; done) | (simp [*]; done)), H', ⟨Nat.le_refl _⟩, ⟨by (with_reducible repeat (first | refine kN ?_ _ | refine kD ?_ | refine kA ?_ _)); exact BK502.out⟩, ⟨by (with_reducible repeat (first | refine kN ?_ _ | refine kD ?_ | refine kA ?_ _)); exact BK503.out⟩, ⟨bl⟩⟩
    case round =>
     clear H'
     try clear c1
     try clear p2
     try clear c3
     try clear c6
     try clear c6b0
     try clear c6b1
     try clear c6b2
     try clear c7
     try clear c7b0
     try clear c7b1
     try clear c7b2
     try clear c8
     try clear c11
     try clear c14
     try clear c17
     try clear hcz10_0 hcz10_1 hcz10_2 hfz10_0 hfz10_1 hfz10_2
     try clear hcz12_0 hcz12_1 hcz12_2 hfz12_0 hfz12_1 hfz12_2
     try clear hcz13_0 hcz13_1 hcz13_2 hfz13_0 hfz13_1 hfz13_2
     try clear hcz15_0 hcz15_1 hcz15_2 hfz15_0 hfz15_1 hfz15_2
     try clear hcz16_0 hcz16_1 hcz16_2 hfz16_0 hfz16_1 hfz16_2
     try clear hcz9_0 hcz9_1 hcz9_2 hfz9_0 hfz9_1 hfz9_2
     try clear p2
     obtain ⟨x5_2, rfl, HA, HK2, BK502, BK503, HB⟩ := hrel
     cases gk with
     | zero => exact absurd HA.out (by simp [mapmakerref14_Same.l0])
     | succ k2 =>
      have H := HA.out
      clear HA
      simp only [mapmakerref14_Same.l0] at H
      by_cases c18 : x5_2 < (l0_0.length : Int)
      ·rw [if_pos c18] at H
       have c18b0 : decide (x5_2 < (l0_0.length : Int)) = true := decide_eq_true c18
       clear c18
       by_cases c19 : 0 ≤ x5_2
       ·rw [if_pos c19] at H
        have c19b0 : decide (0 ≤ x5_2) = true := decide_eq_true c19
        clear c19
        by_cases c20 : x5_2 < (l1_0.length : Int)
        ·rw [if_pos c20] at H
         have c20b0 : decide (x5_2 < (l1_0.length : Int)) = true := decide_eq_true c20
         clear c20
         replace H := Option.bind_eq_some_iff.mp H
         obtain ⟨t506, A210, H⟩ := H
         try dsimp only at H
         have A21 := aM A210
         clear A210
         by_cases c22 : t506 = true
         ·subst c22
          have H1 : (mapmakerref14_Same.l0 k2 (wrap64 (x5_2 + 1)) l0_0 l0_1 l0_2 l1_0 l1_1 l1_2) = some r := by rw [if_pos rfl] at H; exact H
          clear H
          have H := H1
          clear H1
          have H' := aM H
          clear H
          have hnb23 := NB502_503.out
          have hnc23 := NB503_502.out
          have hcz24_0 : wr.cell? ⟨gb502, 0, none⟩ = some (.slice A0_0 l0_0.length c0_0) := (kC BK502.out 0).trans rfl
          have hcz24_1 : wr.cell? ⟨gb502, 1, none⟩ = some (.slice A0_1 l0_1.length c0_1) := (kC BK502.out 1).trans rfl
          have hcz24_2 : wr.cell? ⟨gb502, 2, none⟩ = some (.slice A0_2 l0_2.length c0_2) := (kC BK502.out 2).trans rfl
          have hfz24_0 := kF BK502.out 0
          have hfz24_1 := kF BK502.out 1
          have hfz24_2 := kF BK502.out 2
          try go_wp2
          replace BK502 := aM (kD BK502.out)
          replace BK503 := aM (kD BK503.out)
          replace HB := aM (bD HB.out)
          have p504 : 0 ≤ (x5_2 : Int) := oT
          have q504 : x5_2 < (l0_0.length : Int) := oT
          obtain ⟨ad504, A504_3, c504_3, e504, hx504_0, hx504_1, hx504_2, hx504_3, hl504_3, hi504_3⟩ := at_T39 HR0_0.out x5_2 p504 q504
          have hw504_3 := hx504_3
          have hw504_2 := hx504_2
          have hw504_1 := hx504_1
          have hw504_0 := hx504_0
          cases e504
          replace hx504_0 := hs HB.out hx504_0
          replace hx504_1 := hs HB.out hx504_1
          replace hx504_2 := hs HB.out hx504_2
          replace hx504_3 := hs HB.out hx504_3
          have HR504_3 := aM hi504_3
          have HC504_3 := aM hl504_3
          clear hi504_3 hl504_3
          replace p504 := eq_true p504
          replace q504 := eq_true q504
          have p505 : 0 ≤ (x5_2 : Int) := oT
          have q505 : x5_2 < (l1_0.length : Int) := oT
          obtain ⟨ad505, A505_3, c505_3, e505, hx505_0, hx505_1, hx505_2, hx505_3, hl505_3, hi505_3⟩ := at_T39 HR1_0.out x5_2 p505 q505
          have hw505_3 := hx505_3
          have hw505_2 := hx505_2
          have hw505_1 := hx505_1
          have hw505_0 := hx505_0
          cases e505
          replace hx505_0 := hs HB.out hx505_0
          replace hx505_1 := hs HB.out hx505_1
          replace hx505_2 := hs HB.out hx505_2
          replace hx505_3 := hs HB.out hx505_3
          have HR505_3 := aM hi505_3
          have HC505_3 := aM hl505_3
          clear hi505_3 hl505_3
          replace p505 := eq_true p505
          replace q505 := eq_true q505
          refine start_ (n := 12) (S := fun w' => w'.cell? ⟨gb502, 0, none⟩ = some (.slice (some ad504) l0_0.length c0_0) ∧ w'.cell? ⟨gb502, 1, none⟩ = some (.slice A0_1 l0_1.length c0_1) ∧ w'.cell? ⟨gb502, 2, none⟩ = some (.slice A0_2 l0_2.length c0_2) ∧ w'.cell? ⟨gb503, 0, none⟩ = some (.slice (some ad505) l1_0.length c1_0) ∧ w'.cell? ⟨gb503, 1, none⟩ = some (.slice A1_1 l1_1.length c1_1) ∧ w'.cell? ⟨gb503, 2, none⟩ = some (.slice A1_2 l1_2.length c1_2) ∧ w'.cell? (ad504.add ((x5_2).toNat * 4)) = some (.int .i64 ((rd_T39 l0_0 x5_2).f0)) ∧ w'.cell? ⟨(ad504.add ((x5_2).toNat * 4)).block, (ad504.add ((x5_2).toNat * 4)).off + 1, none⟩ = some (.int .i64 ((rd_T39 l0_0 x5_2).f1.f0)) ∧ w'.cell? ⟨(ad504.add ((x5_2).toNat * 4)).block, (ad504.add ((x5_2).toNat * 4)).off + 2, none⟩ = some (.int .i64 ((rd_T39 l0_0 x5_2).f1.f1)) ∧ w'.cell? ⟨(ad504.add ((x5_2).toNat * 4)).block, (ad504.add ((x5_2).toNat * 4)).off + 3, none⟩ = some (.slice A504_3 ((rd_T39 l0_0 x5_2).f2).length c504_3) ∧ w'.cell? (ad505.add ((x5_2).toNat * 4)) = some (.int .i64 ((rd_T39 l1_0 x5_2).f0)) ∧ w'.cell? ⟨(ad505.add ((x5_2).toNat * 4)).block, (ad505.add ((x5_2).toNat * 4)).off + 1, none⟩ = some (.int .i64 ((rd_T39 l1_0 x5_2).f1.f0)) ∧ w'.cell? ⟨(ad505.add ((x5_2).toNat * 4)).block, (ad505.add ((x5_2).toNat * 4)).off + 2, none⟩ = some (.int .i64 ((rd_T39 l1_0 x5_2).f1.f1)) ∧ w'.cell? ⟨(ad505.add ((x5_2).toNat * 4)).block, (ad505.add ((x5_2).toNat * 4)).off + 3, none⟩ = some (.slice A505_3 ((rd_T39 l1_0 x5_2).f2).length c505_3)) (ds := []) #[false, false, false, false, false, false, false, false, false, false, false, false] (by kernel_rfl) rfl rfl ⟨(kC BK502.out 0).trans rfl, (kC BK502.out 1).trans rfl, (kC BK502.out 2).trans rfl, (kC BK503.out 0).trans rfl, (kC BK503.out 1).trans rfl, (kC BK503.out 2).trans rfl, ((HB.out.cell (World.block_lt_of_cell? w _ hw504_0)).trans hw504_0), ((HB.out.cell (World.block_lt_of_cell? w _ hw504_1)).trans hw504_1), ((HB.out.cell (World.block_lt_of_cell? w _ hw504_2)).trans hw504_2), ((HB.out.cell (World.block_lt_of_cell? w _ hw504_3)).trans hw504_3), ((HB.out.cell (World.block_lt_of_cell? w _ hw505_0)).trans hw505_0), ((HB.out.cell (World.block_lt_of_cell? w _ hw505_1)).trans hw505_1), ((HB.out.cell (World.block_lt_of_cell? w _ hw505_2)).trans hw505_2), ((HB.out.cell (World.block_lt_of_cell? w _ hw505_3)).trans hw505_3)⟩ (fun hHeld => ?_); refine with_tabW mapmakerref14_Same.tab6 mapmakerref14_Same.bits6 (fun HT_ HW_ => ?_)
          generalize wr.drew = w25 at BK502 BK503 HB HR504_3 HR505_3 hx504_0 hx504_1 hx504_2 hx504_3 hx505_0 hx505_1 hx505_2 hx505_3 hHeld ⊢
          refine pure_ (i := 0) (N := some 40) (v := ?_) (a' := ?_) (ba 12 1) rfl rfl (any_of HT_.out (by kernel_rfl)) (fun _ _ _ h => h) (Or.inl ⟨by rfl, ?_⟩) ?_ ?_
          rotate_left
          ·intro w'
           go_simp
           with_reducible rfl
          rotate_left
          ·simp only [Act.put, sA, sB, sC, i64_w, i32_w]
           rfl
          refine pure_ (i := 2) (N := some 42) (v := ?_) (a' := ?_) (ba 12 5) rfl rfl (any_of HT_.out (by kernel_rfl)) (fun _ _ _ h => h) (Or.inl ⟨by rfl, ?_⟩) ?_ ?_
          rotate_left
          ·intro w'
           go_simp
           with_reducible rfl
          rotate_left
          ·simp only [Act.put, sA, sB, sC, i64_w, i32_w]
           rfl
          refine pure_ (i := 5) (N := some 45) (v := ?_) (a' := ?_) (ba 12 37) rfl rfl (any_of HT_.out (by kernel_rfl)) (fun _ _ _ h => h) (Or.inl ⟨by rfl, ?_⟩) ?_ ?_
          rotate_left
          ·intro w'
           go_simp
           with_reducible rfl
          rotate_left
          ·simp only [Act.put, sA, sB, sC, i64_w, i32_w]
           rfl
          refine pure_ (i := 7) (N := some 47) (v := ?_) (a' := ?_) (ba 12 165) rfl rfl (any_of HT_.out (by kernel_rfl)) (fun _ _ _ h => h) (Or.inl ⟨by rfl, ?_⟩) ?_ ?_
          rotate_left
          ·intro w'
           go_simp
           with_reducible rfl
          rotate_left
          ·simp only [Act.put, sA, sB, sC, i64_w, i32_w]
           rfl
          refine take_ (i := 1) (N := some 41) (v := ?_) (a' := ?_) (ba 12 167) rfl rfl (take_ofW HT_.out HW_.out (by kernel_rfl)) (fun _ _ _ h => h) (Or.inl ⟨by rfl, ?_⟩) hHeld ?_ ?_
          rotate_left
          ·rintro w' ⟨s0, s1, s2, s3, s4, s5, s6, s7, s8, s9, s10, s11, s12, s13⟩
           go_simp
           with_reducible rfl
          rotate_left
          ·simp only [Act.put, sA, sB, sC, i64_w, i32_w]
           rfl
          refine pure_ (i := 3) (N := some 43) (v := ?_) (a' := ?_) (ba 12 175) rfl rfl (any_of HT_.out (by kernel_rfl)) (fun _ _ _ h => h) (Or.inl ⟨by rfl, ?_⟩) ?_ ?_
          rotate_left
          ·intro w'
           go_simp
           with_reducible rfl
          rotate_left
          ·simp only [Act.put, sA, sB, sC, i64_w, i32_w]
           rfl
          refine take_ (i := 4) (N := some 44) (v := ?_) (a' := ?_) (ba 12 191) rfl rfl (take_ofW HT_.out HW_.out (by kernel_rfl)) (fun _ _ _ h => h) (Or.inl ⟨by rfl, ?_⟩) hHeld ?_ ?_
          rotate_left
          ·rintro w' ⟨s0, s1, s2, s3, s4, s5, s6, s7, s8, s9, s10, s11, s12, s13⟩
           go_simp
           with_reducible rfl
          rotate_left
          ·simp only [Act.put, sA, sB, sC, i64_w, i32_w]
           rfl
          refine take_ (i := 6) (N := some 46) (v := ?_) (a' := ?_) (ba 12 255) rfl rfl (take_ofW HT_.out HW_.out (by kernel_rfl)) (fun _ _ _ h => h) (Or.inl ⟨by rfl, ?_⟩) hHeld ?_ ?_
          rotate_left
          ·rintro w' ⟨s0, s1, s2, s3, s4, s5, s6, s7, s8, s9, s10, s11, s12, s13⟩
           go_simp
           with_reducible rfl
          rotate_left
          ·simp only [Act.put, sA, sB, sC, i64_w, i32_w]
           rfl
          refine pure_ (i := 8) (N := some 48) (v := ?_) (a' := ?_) (ba 12 511) rfl rfl (any_of HT_.out (by kernel_rfl)) (fun _ _ _ h => h) (Or.inl ⟨by rfl, ?_⟩) ?_ ?_
          rotate_left
          ·intro w'
           go_simp
           with_reducible rfl
          rotate_left
          ·simp only [Act.put, sA, sB, sC, i64_w, i32_w]
           rfl
          refine take_ (i := 9) (N := some 49) (v := ?_) (a' := ?_) (ba 12 1023) rfl rfl (take_ofW HT_.out HW_.out (by kernel_rfl)) (fun _ _ _ h => h) (Or.inl ⟨by rfl, ?_⟩) hHeld ?_ ?_
          rotate_left
          ·rintro w' ⟨s0, s1, s2, s3, s4, s5, s6, s7, s8, s9, s10, s11, s12, s13⟩
           go_simp
           with_reducible rfl
          rotate_left
          ·simp only [Act.put, sA, sB, sC, i64_w, i32_w]
           rfl
          refine one_ (i := 10) (N := some 50) (ba 12 2047) rfl rfl (one_of HT_.out (by kernel_rfl)) (by decide) (fun K hK => ?_)
          refine goes_ Try.func14 (by kernel_rfl) rfl #[.agg #[.int .i64 ((rd_T39 l0_0 x5_2).f0), .int .i64 ((rd_T39 l0_0 x5_2).f1.f0), .int .i64 ((rd_T39 l0_0 x5_2).f1.f1), .slice A504_3 ((rd_T39 l0_0 x5_2).f2).length c504_3], .agg #[.int .i64 ((rd_T39 l1_0 x5_2).f0), .int .i64 ((rd_T39 l1_0 x5_2).f1.f0), .int .i64 ((rd_T39 l1_0 x5_2).f1.f1), .slice A505_3 ((rd_T39 l1_0 x5_2).f2).length c505_3]] (by rfl) rfl rfl (by (try simp only [List.map_toArray, List.map_cons, List.map_nil]); first | done | rfl | (simp only [List.length_drop, List.length_take]; rfl)) ?_
          with_reducible refine (mapmakerref14_SameNode.calls k2 ((rd_T39 l0_0 x5_2).f0) ((rd_T39 l0_0 x5_2).f1.f0) ((rd_T39 l0_0 x5_2).f1.f1) _ _ ((rd_T39 l0_0 x5_2).f2) ((rd_T39 l1_0 x5_2).f0) ((rd_T39 l1_0 x5_2).f1.f0) ((rd_T39 l1_0 x5_2).f1.f1) _ _ ((rd_T39 l1_0 x5_2).f2) true _ ?side1 ?side2 ?side3 ?side4 A21.out).mono ?_
          (case side1 => repeat (first | exact (Kd.C_below HR504_3.out HB.out) | (with_reducible refine cA ?_ _) | (with_reducible refine cN ?_ _) | (with_reducible refine cD ?_)))
          (case side2 => exact HC504_3.out)
          (case side3 => repeat (first | exact (Kd.C_below HR505_3.out HB.out) | (with_reducible refine cA ?_ _) | (with_reducible refine cN ?_ _) | (with_reducible refine cD ?_)))
          (case side4 => exact HC505_3.out)
          rintro e w26 ⟨rfl, hb⟩
          refine ⟨_, rfl, ?_⟩
          replace BK502 := aM (kB (kl BK502) hb)
          replace BK503 := aM (kB (kl BK503) hb)
          replace HB := aM (bS (bl) hb)
          (try clear hb)
          (try clear hb2)
          (try clear hk)
          (try clear hi)
          refine hK.out _ _ ⟨(kC BK502.out 0).trans rfl, (kC BK502.out 1).trans rfl, (kC BK502.out 2).trans rfl, (kC BK503.out 0).trans rfl, (kC BK503.out 1).trans rfl, (kC BK503.out 2).trans rfl, ((HB.out.cell (World.block_lt_of_cell? w _ hw504_0)).trans hw504_0), ((HB.out.cell (World.block_lt_of_cell? w _ hw504_1)).trans hw504_1), ((HB.out.cell (World.block_lt_of_cell? w _ hw504_2)).trans hw504_2), ((HB.out.cell (World.block_lt_of_cell? w _ hw504_3)).trans hw504_3), ((HB.out.cell (World.block_lt_of_cell? w _ hw505_0)).trans hw505_0), ((HB.out.cell (World.block_lt_of_cell? w _ hw505_1)).trans hw505_1), ((HB.out.cell (World.block_lt_of_cell? w _ hw505_2)).trans hw505_2), ((HB.out.cell (World.block_lt_of_cell? w _ hw505_3)).trans hw505_3)⟩ (fun hHeld => ?_)
          clear hK K
          refine norm_ (a' := ?_) ?_ ?_
          rotate_left
          ·show Act.put _ (some 50) _ = _
           simp only [Act.put, sA, sB, sC, i64_w, i32_w]
           rfl
          refine pure_ (i := 11) (N := some 51) (v := ?_) (a' := ?_) (ba 12 4095) rfl rfl (any_of HT_.out (by kernel_rfl)) (fun _ _ _ h => h) (Or.inl ⟨by rfl, ?_⟩) ?_ ?_
          rotate_left
          ·intro w'
           go_simp
           with_reducible rfl
          rotate_left
          ·simp only [Act.put, sA, sB, sC, i64_w, i32_w]
           rfl
          refine done_ (done_of HT_.out (by kernel_rfl)) ?_
          try go_wp2
          go_roundg k2
          case measure => have := HJ2.out; have := HK2.out; omega
          case rel => exact ⟨(wrap64 (x5_2 + 1)), (by first | rfl | (simp; done) | (simp [*]; done)), H', ⟨by have := HJ2.out; have := HK2.out; omega⟩, ⟨by (with_reducible repeat (first | refine kN ?_ _ | refine kD ?_ | refine kA ?_ _)); exact BK502.out⟩, ⟨by (with_reducible repeat (first | refine kN ?_ _ | refine kD ?_ | refine kA ?_ _)); exact BK503.out⟩, ⟨bl⟩⟩
         ·replace c22 := Bool.eq_false_iff.mpr c22
          subst c22
          have H1 : (some false) = some r := by rw [if_neg (show ¬ (false = true) by decide)] at H; exact H
          clear H
          have H := H1
          clear H1
          obtain rfl := Option.some.inj H
          have hnb27 := NB502_503.out
          have hnc27 := NB503_502.out
          have hcz28_0 : wr.cell? ⟨gb502, 0, none⟩ = some (.slice A0_0 l0_0.length c0_0) := (kC BK502.out 0).trans rfl
          have hcz28_1 : wr.cell? ⟨gb502, 1, none⟩ = some (.slice A0_1 l0_1.length c0_1) := (kC BK502.out 1).trans rfl
          have hcz28_2 : wr.cell? ⟨gb502, 2, none⟩ = some (.slice A0_2 l0_2.length c0_2) := (kC BK502.out 2).trans rfl
          have hfz28_0 := kF BK502.out 0
          have hfz28_1 := kF BK502.out 1
          have hfz28_2 := kF BK502.out 2
          try go_wp2
          replace BK502 := aM (kD BK502.out)
          replace BK503 := aM (kD BK503.out)
          replace HB := aM (bD HB.out)
          have p504 : 0 ≤ (x5_2 : Int) := oT
          have q504 : x5_2 < (l0_0.length : Int) := oT
          obtain ⟨ad504, A504_3, c504_3, e504, hx504_0, hx504_1, hx504_2, hx504_3, hl504_3, hi504_3⟩ := at_T39 HR0_0.out x5_2 p504 q504
          have hw504_3 := hx504_3
          have hw504_2 := hx504_2
          have hw504_1 := hx504_1
          have hw504_0 := hx504_0
          cases e504
          replace hx504_0 := hs HB.out hx504_0
          replace hx504_1 := hs HB.out hx504_1
          replace hx504_2 := hs HB.out hx504_2
          replace hx504_3 := hs HB.out hx504_3
          have HR504_3 := aM hi504_3
          have HC504_3 := aM hl504_3
          clear hi504_3 hl504_3
          replace p504 := eq_true p504
          replace q504 := eq_true q504
          have p505 : 0 ≤ (x5_2 : Int) := oT
          have q505 : x5_2 < (l1_0.length : Int) := oT
          obtain ⟨ad505, A505_3, c505_3, e505, hx505_0, hx505_1, hx505_2, hx505_3, hl505_3, hi505_3⟩ := at_T39 HR1_0.out x5_2 p505 q505
          have hw505_3 := hx505_3
          have hw505_2 := hx505_2
          have hw505_1 := hx505_1
          have hw505_0 := hx505_0
          cases e505
          replace hx505_0 := hs HB.out hx505_0
          replace hx505_1 := hs HB.out hx505_1
          replace hx505_2 := hs HB.out hx505_2
          replace hx505_3 := hs HB.out hx505_3
          have HR505_3 := aM hi505_3
          have HC505_3 := aM hl505_3
          clear hi505_3 hl505_3
          replace p505 := eq_true p505
          replace q505 := eq_true q505
          refine start_ (n := 12) (S := fun w' => w'.cell? ⟨gb502, 0, none⟩ = some (.slice (some ad504) l0_0.length c0_0) ∧ w'.cell? ⟨gb502, 1, none⟩ = some (.slice A0_1 l0_1.length c0_1) ∧ w'.cell? ⟨gb502, 2, none⟩ = some (.slice A0_2 l0_2.length c0_2) ∧ w'.cell? ⟨gb503, 0, none⟩ = some (.slice (some ad505) l1_0.length c1_0) ∧ w'.cell? ⟨gb503, 1, none⟩ = some (.slice A1_1 l1_1.length c1_1) ∧ w'.cell? ⟨gb503, 2, none⟩ = some (.slice A1_2 l1_2.length c1_2) ∧ w'.cell? (ad504.add ((x5_2).toNat * 4)) = some (.int .i64 ((rd_T39 l0_0 x5_2).f0)) ∧ w'.cell? ⟨(ad504.add ((x5_2).toNat * 4)).block, (ad504.add ((x5_2).toNat * 4)).off + 1, none⟩ = some (.int .i64 ((rd_T39 l0_0 x5_2).f1.f0)) ∧ w'.cell? ⟨(ad504.add ((x5_2).toNat * 4)).block, (ad504.add ((x5_2).toNat * 4)).off + 2, none⟩ = some (.int .i64 ((rd_T39 l0_0 x5_2).f1.f1)) ∧ w'.cell? ⟨(ad504.add ((x5_2).toNat * 4)).block, (ad504.add ((x5_2).toNat * 4)).off + 3, none⟩ = some (.slice A504_3 ((rd_T39 l0_0 x5_2).f2).length c504_3) ∧ w'.cell? (ad505.add ((x5_2).toNat * 4)) = some (.int .i64 ((rd_T39 l1_0 x5_2).f0)) ∧ w'.cell? ⟨(ad505.add ((x5_2).toNat * 4)).block, (ad505.add ((x5_2).toNat * 4)).off + 1, none⟩ = some (.int .i64 ((rd_T39 l1_0 x5_2).f1.f0)) ∧ w'.cell? ⟨(ad505.add ((x5_2).toNat * 4)).block, (ad505.add ((x5_2).toNat * 4)).off + 2, none⟩ = some (.int .i64 ((rd_T39 l1_0 x5_2).f1.f1)) ∧ w'.cell? ⟨(ad505.add ((x5_2).toNat * 4)).block, (ad505.add ((x5_2).toNat * 4)).off + 3, none⟩ = some (.slice A505_3 ((rd_T39 l1_0 x5_2).f2).length c505_3)) (ds := []) #[false, false, false, false, false, false, false, false, false, false, false, false] (by kernel_rfl) rfl rfl ⟨(kC BK502.out 0).trans rfl, (kC BK502.out 1).trans rfl, (kC BK502.out 2).trans rfl, (kC BK503.out 0).trans rfl, (kC BK503.out 1).trans rfl, (kC BK503.out 2).trans rfl, ((HB.out.cell (World.block_lt_of_cell? w _ hw504_0)).trans hw504_0), ((HB.out.cell (World.block_lt_of_cell? w _ hw504_1)).trans hw504_1), ((HB.out.cell (World.block_lt_of_cell? w _ hw504_2)).trans hw504_2), ((HB.out.cell (World.block_lt_of_cell? w _ hw504_3)).trans hw504_3), ((HB.out.cell (World.block_lt_of_cell? w _ hw505_0)).trans hw505_0), ((HB.out.cell (World.block_lt_of_cell? w _ hw505_1)).trans hw505_1), ((HB.out.cell (World.block_lt_of_cell? w _ hw505_2)).trans hw505_2), ((HB.out.cell (World.block_lt_of_cell? w _ hw505_3)).trans hw505_3)⟩ (fun hHeld => ?_); refine with_tabW mapmakerref14_Same.tab6 mapmakerref14_Same.bits6 (fun HT_ HW_ => ?_)
          generalize wr.drew = w29 at BK502 BK503 HB HR504_3 HR505_3 hx504_0 hx504_1 hx504_2 hx504_3 hx505_0 hx505_1 hx505_2 hx505_3 hHeld ⊢
          refine pure_ (i := 0) (N := some 40) (v := ?_) (a' := ?_) (ba 12 1) rfl rfl (any_of HT_.out (by kernel_rfl)) (fun _ _ _ h => h) (Or.inl ⟨by rfl, ?_⟩) ?_ ?_
          rotate_left
          ·intro w'
           go_simp
           with_reducible rfl
          rotate_left
          ·simp only [Act.put, sA, sB, sC, i64_w, i32_w]
           rfl
          refine pure_ (i := 2) (N := some 42) (v := ?_) (a' := ?_) (ba 12 5) rfl rfl (any_of HT_.out (by kernel_rfl)) (fun _ _ _ h => h) (Or.inl ⟨by rfl, ?_⟩) ?_ ?_
          rotate_left
          ·intro w'
           go_simp
           with_reducible rfl
          rotate_left
          ·simp only [Act.put, sA, sB, sC, i64_w, i32_w]
           rfl
          refine pure_ (i := 5) (N := some 45) (v := ?_) (a' := ?_) (ba 12 37) rfl rfl (any_of HT_.out (by kernel_rfl)) (fun _ _ _ h => h) (Or.inl ⟨by rfl, ?_⟩) ?_ ?_
          rotate_left
          ·intro w'
           go_simp
           with_reducible rfl
          rotate_left
          ·simp only [Act.put, sA, sB, sC, i64_w, i32_w]
           rfl
          refine pure_ (i := 7) (N := some 47) (v := ?_) (a' := ?_) (ba 12 165) rfl rfl (any_of HT_.out (by kernel_rfl)) (fun _ _ _ h => h) (Or.inl ⟨by rfl, ?_⟩) ?_ ?_
          rotate_left
          ·intro w'
           go_simp
           with_reducible rfl
          rotate_left
          ·simp only [Act.put, sA, sB, sC, i64_w, i32_w]
           rfl
          refine take_ (i := 1) (N := some 41) (v := ?_) (a' := ?_) (ba 12 167) rfl rfl (take_ofW HT_.out HW_.out (by kernel_rfl)) (fun _ _ _ h => h) (Or.inl ⟨by rfl, ?_⟩) hHeld ?_ ?_
          rotate_left
          ·rintro w' ⟨s0, s1, s2, s3, s4, s5, s6, s7, s8, s9, s10, s11, s12, s13⟩
           go_simp
           with_reducible rfl
          rotate_left
          ·simp only [Act.put, sA, sB, sC, i64_w, i32_w]
           rfl
          refine pure_ (i := 3) (N := some 43) (v := ?_) (a' := ?_) (ba 12 175) rfl rfl (any_of HT_.out (by kernel_rfl)) (fun _ _ _ h => h) (Or.inl ⟨by rfl, ?_⟩) ?_ ?_
          rotate_left
          ·intro w'
           go_simp
           with_reducible rfl
          rotate_left
          ·simp only [Act.put, sA, sB, sC, i64_w, i32_w]
           rfl
          refine take_ (i := 4) (N := some 44) (v := ?_) (a' := ?_) (ba 12 191) rfl rfl (take_ofW HT_.out HW_.out (by kernel_rfl)) (fun _ _ _ h => h) (Or.inl ⟨by rfl, ?_⟩) hHeld ?_ ?_
          rotate_left
          ·rintro w' ⟨s0, s1, s2, s3, s4, s5, s6, s7, s8, s9, s10, s11, s12, s13⟩
           go_simp
           with_reducible rfl
          rotate_left
          ·simp only [Act.put, sA, sB, sC, i64_w, i32_w]
           rfl
          refine take_ (i := 6) (N := some 46) (v := ?_) (a' := ?_) (ba 12 255) rfl rfl (take_ofW HT_.out HW_.out (by kernel_rfl)) (fun _ _ _ h => h) (Or.inl ⟨by rfl, ?_⟩) hHeld ?_ ?_
          rotate_left
          ·rintro w' ⟨s0, s1, s2, s3, s4, s5, s6, s7, s8, s9, s10, s11, s12, s13⟩
           go_simp
           with_reducible rfl
          rotate_left
          ·simp only [Act.put, sA, sB, sC, i64_w, i32_w]
           rfl
          refine pure_ (i := 8) (N := some 48) (v := ?_) (a' := ?_) (ba 12 511) rfl rfl (any_of HT_.out (by kernel_rfl)) (fun _ _ _ h => h) (Or.inl ⟨by rfl, ?_⟩) ?_ ?_
          rotate_left
          ·intro w'
           go_simp
           with_reducible rfl
          rotate_left
          ·simp only [Act.put, sA, sB, sC, i64_w, i32_w]
           rfl
          refine take_ (i := 9) (N := some 49) (v := ?_) (a' := ?_) (ba 12 1023) rfl rfl (take_ofW HT_.out HW_.out (by kernel_rfl)) (fun _ _ _ h => h) (Or.inl ⟨by rfl, ?_⟩) hHeld ?_ ?_
          rotate_left
          ·rintro w' ⟨s0, s1, s2, s3, s4, s5, s6, s7, s8, s9, s10, s11, s12, s13⟩
           go_simp
           with_reducible rfl
          rotate_left
          ·simp only [Act.put, sA, sB, sC, i64_w, i32_w]
           rfl
          refine one_ (i := 10) (N := some 50) (ba 12 2047) rfl rfl (one_of HT_.out (by kernel_rfl)) (by decide) (fun K hK => ?_)
          refine goes_ Try.func14 (by kernel_rfl) rfl #[.agg #[.int .i64 ((rd_T39 l0_0 x5_2).f0), .int .i64 ((rd_T39 l0_0 x5_2).f1.f0), .int .i64 ((rd_T39 l0_0 x5_2).f1.f1), .slice A504_3 ((rd_T39 l0_0 x5_2).f2).length c504_3], .agg #[.int .i64 ((rd_T39 l1_0 x5_2).f0), .int .i64 ((rd_T39 l1_0 x5_2).f1.f0), .int .i64 ((rd_T39 l1_0 x5_2).f1.f1), .slice A505_3 ((rd_T39 l1_0 x5_2).f2).length c505_3]] (by rfl) rfl rfl (by (try simp only [List.map_toArray, List.map_cons, List.map_nil]); first | done | rfl | (simp only [List.length_drop, List.length_take]; rfl)) ?_
          with_reducible refine (mapmakerref14_SameNode.calls k2 ((rd_T39 l0_0 x5_2).f0) ((rd_T39 l0_0 x5_2).f1.f0) ((rd_T39 l0_0 x5_2).f1.f1) _ _ ((rd_T39 l0_0 x5_2).f2) ((rd_T39 l1_0 x5_2).f0) ((rd_T39 l1_0 x5_2).f1.f0) ((rd_T39 l1_0 x5_2).f1.f1) _ _ ((rd_T39 l1_0 x5_2).f2) false _ ?side1 ?side2 ?side3 ?side4 A21.out).mono ?_
          (case side1 => repeat (first | exact (Kd.C_below HR504_3.out HB.out) | (with_reducible refine cA ?_ _) | (with_reducible refine cN ?_ _) | (with_reducible refine cD ?_)))
          (case side2 => exact HC504_3.out)
          (case side3 => repeat (first | exact (Kd.C_below HR505_3.out HB.out) | (with_reducible refine cA ?_ _) | (with_reducible refine cN ?_ _) | (with_reducible refine cD ?_)))
          (case side4 => exact HC505_3.out)
          rintro e w30 ⟨rfl, hb⟩
          refine ⟨_, rfl, ?_⟩
          replace BK502 := aM (kB (kl BK502) hb)
          replace BK503 := aM (kB (kl BK503) hb)
          replace HB := aM (bS (bl) hb)
          (try clear hb)
          (try clear hb2)
          (try clear hk)
          (try clear hi)
          refine hK.out _ _ ⟨(kC BK502.out 0).trans rfl, (kC BK502.out 1).trans rfl, (kC BK502.out 2).trans rfl, (kC BK503.out 0).trans rfl, (kC BK503.out 1).trans rfl, (kC BK503.out 2).trans rfl, ((HB.out.cell (World.block_lt_of_cell? w _ hw504_0)).trans hw504_0), ((HB.out.cell (World.block_lt_of_cell? w _ hw504_1)).trans hw504_1), ((HB.out.cell (World.block_lt_of_cell? w _ hw504_2)).trans hw504_2), ((HB.out.cell (World.block_lt_of_cell? w _ hw504_3)).trans hw504_3), ((HB.out.cell (World.block_lt_of_cell? w _ hw505_0)).trans hw505_0), ((HB.out.cell (World.block_lt_of_cell? w _ hw505_1)).trans hw505_1), ((HB.out.cell (World.block_lt_of_cell? w _ hw505_2)).trans hw505_2), ((HB.out.cell (World.block_lt_of_cell? w _ hw505_3)).trans hw505_3)⟩ (fun hHeld => ?_)
          clear hK K
          refine norm_ (a' := ?_) ?_ ?_
          rotate_left
          ·show Act.put _ (some 50) _ = _
           simp only [Act.put, sA, sB, sC, i64_w, i32_w]
           rfl
          refine pure_ (i := 11) (N := some 51) (v := ?_) (a' := ?_) (ba 12 4095) rfl rfl (any_of HT_.out (by kernel_rfl)) (fun _ _ _ h => h) (Or.inl ⟨by rfl, ?_⟩) ?_ ?_
          rotate_left
          ·intro w'
           go_simp
           with_reducible rfl
          rotate_left
          ·simp only [Act.put, sA, sB, sC, i64_w, i32_w]
           rfl
          refine done_ (done_of HT_.out (by kernel_rfl)) ?_
          try go_wp2
          go_ret
          exact ⟨by first | rfl | (simp [errW_none, errW_some] <;> rfl) | (simp [*, errW_none, errW_some] <;> rfl), bl⟩
        ·rw [if_neg c20] at H
         exact absurd H (by simp)
       ·rw [if_neg c19] at H
        exact absurd H (by simp)
      ·rw [if_neg c18] at H
       have c18b0 : decide (x5_2 < (l0_0.length : Int)) = false := decide_eq_false c18
       clear c18
       have H' := aM H
       clear H
       have hnb31 := NB502_503.out
       have hnc31 := NB503_502.out
       have hcz32_0 : wr.cell? ⟨gb502, 0, none⟩ = some (.slice A0_0 l0_0.length c0_0) := (kC BK502.out 0).trans rfl
       have hcz32_1 : wr.cell? ⟨gb502, 1, none⟩ = some (.slice A0_1 l0_1.length c0_1) := (kC BK502.out 1).trans rfl
       have hcz32_2 : wr.cell? ⟨gb502, 2, none⟩ = some (.slice A0_2 l0_2.length c0_2) := (kC BK502.out 2).trans rfl
       have hfz32_0 := kF BK502.out 0
       have hfz32_1 := kF BK502.out 1
       have hfz32_2 := kF BK502.out 2
       go_wp2
       go_loopg [6] k2 (fun kq v6 w' => ∃ (x6_3 : Int), v6 = .int .i64 x6_3 ∧ Aside0 (mapmakerref14_Same.l1 kq x6_3 l0_0 l0_1 l0_2 l1_0 l1_1 l1_2 = some r) ∧ Aside0 (kq ≤ k2) ∧ Aside0 (w'.heap[gb502]? = some (.cells #[(.slice A0_0 l0_0.length c0_0), (.slice A0_1 l0_1.length c0_1), (.slice A0_2 l0_2.length c0_2)] 26 (0, 0))) ∧ Aside0 (w'.heap[gb503]? = some (.cells #[(.slice A1_0 l1_0.length c1_0), (.slice A1_1 l1_1.length c1_1), (.slice A1_2 l1_2.length c1_2)] 26 (0, 0))) ∧ Aside0 (Below w.heap.size w w'))
       case atStart => exact ⟨(0), (by first | rfl | (simp; done) | (simp [*]; done)), H', ⟨Nat.le_refl _⟩, ⟨by (with_reducible repeat (first | refine kN ?_ _ | refine kD ?_ | refine kA ?_ _)); exact BK502.out⟩, ⟨by (with_reducible repeat (first | refine kN ?_ _ | refine kD ?_ | refine kA ?_ _)); exact BK503.out⟩, ⟨bl⟩⟩
       case round =>
        clear H'
        try clear c1
        try clear c2
        try clear p2
        try clear c3
        try clear c5
        try clear p5
        try clear q5
        try clear hx5
        try clear c6
        try clear c6b0
        try clear c6b1
        try clear c6b2
        try clear p6
        try clear c7
        try clear c7b0
        try clear c7b1
        try clear c7b2
        try clear c8
        try clear c11
        try clear c14
        try clear c17
        try clear c18
        try clear c18b0
        try clear c19
        try clear c19b0
        try clear c20
        try clear c20b0
        try clear c22
        try clear c23
        try clear c27
        try clear c31
        try clear hcz10_0 hcz10_1 hcz10_2 hfz10_0 hfz10_1 hfz10_2
        try clear hcz12_0 hcz12_1 hcz12_2 hfz12_0 hfz12_1 hfz12_2
        try clear hcz13_0 hcz13_1 hcz13_2 hfz13_0 hfz13_1 hfz13_2
        try clear hcz15_0 hcz15_1 hcz15_2 hfz15_0 hfz15_1 hfz15_2
        try clear hcz16_0 hcz16_1 hcz16_2 hfz16_0 hfz16_1 hfz16_2
        try clear hcz24_0 hcz24_1 hcz24_2 hfz24_0 hfz24_1 hfz24_2
        try clear hcz28_0 hcz28_1 hcz28_2 hfz28_0 hfz28_1 hfz28_2
        try clear hcz32_0 hcz32_1 hcz32_2 hfz32_0 hfz32_1 hfz32_2
        try clear hcz9_0 hcz9_1 hcz9_2 hfz9_0 hfz9_1 hfz9_2
        try clear hx504_0
        try clear hx504_1
        try clear hx504_2
        try clear hx504_3
        try clear hx505_0
        try clear hx505_1
        try clear hx505_2
        try clear hx505_3
        try clear p2
        try clear p504
        try clear p505
        try clear q504
        try clear q505
        obtain ⟨x6_3, rfl, HA, HK3, BK502, BK503, HB⟩ := hrel
        cases gk with
        | zero => exact absurd HA.out (by simp [mapmakerref14_Same.l1])
        | succ k3 =>
         have H := HA.out
         clear HA
         simp only [mapmakerref14_Same.l1] at H
         by_cases c33 : x6_3 < (l0_1.length : Int)
         ·rw [if_pos c33] at H
          have c33b0 : decide (x6_3 < (l0_1.length : Int)) = true := decide_eq_true c33
          clear c33
          by_cases c34 : 0 ≤ x6_3
          ·rw [if_pos c34] at H
           have c34b0 : decide (0 ≤ x6_3) = true := decide_eq_true c34
           clear c34
           by_cases c35 : x6_3 < (l1_1.length : Int)
           ·rw [if_pos c35] at H
            have c35b0 : decide (x6_3 < (l1_1.length : Int)) = true := decide_eq_true c35
            clear c35
            replace H := Option.bind_eq_some_iff.mp H
            obtain ⟨t509, A360, H⟩ := H
            try dsimp only at H
            have A36 := aM A360
            clear A360
            by_cases c37 : t509 = true
            ·subst c37
             have H1 : (mapmakerref14_Same.l1 k3 (wrap64 (x6_3 + 1)) l0_0 l0_1 l0_2 l1_0 l1_1 l1_2) = some r := by rw [if_pos rfl] at H; exact H
             clear H
             have H := H1
             clear H1
             have H' := aM H
             clear H
             have hnb38 := NB502_503.out
             have hnc38 := NB503_502.out
             have hcz39_0 : wr.cell? ⟨gb502, 0, none⟩ = some (.slice A0_0 l0_0.length c0_0) := (kC BK502.out 0).trans rfl
             have hcz39_1 : wr.cell? ⟨gb502, 1, none⟩ = some (.slice A0_1 l0_1.length c0_1) := (kC BK502.out 1).trans rfl
             have hcz39_2 : wr.cell? ⟨gb502, 2, none⟩ = some (.slice A0_2 l0_2.length c0_2) := (kC BK502.out 2).trans rfl
             have hfz39_0 := kF BK502.out 0
             have hfz39_1 := kF BK502.out 1
             have hfz39_2 := kF BK502.out 2
             try go_wp2
             replace BK502 := aM (kD BK502.out)
             replace BK503 := aM (kD BK503.out)
             replace HB := aM (bD HB.out)
             have p507 : 0 ≤ (x6_3 : Int) := oT
             have q507 : x6_3 < (l0_1.length : Int) := oT
             obtain ⟨ad507, A507_1, c507_1, A507_2, c507_2, e507, hx507_0, hx507_1, hx507_2, hl507_1, hi507_1, hl507_2, hi507_2⟩ := at_T45 HR0_1.out x6_3 p507 q507
             have hw507_2 := hx507_2
             have hw507_1 := hx507_1
             have hw507_0 := hx507_0
             cases e507
             replace hx507_0 := hs HB.out hx507_0
             replace hx507_1 := hs HB.out hx507_1
             replace hx507_2 := hs HB.out hx507_2
             have HR507_1 := aM hi507_1
             have HC507_1 := aM hl507_1
             clear hi507_1 hl507_1
             have HR507_2 := aM hi507_2
             have HC507_2 := aM hl507_2
             clear hi507_2 hl507_2
             replace p507 := eq_true p507
             replace q507 := eq_true q507
             have p508 : 0 ≤ (x6_3 : Int) := oT
             have q508 : x6_3 < (l1_1.length : Int) := oT
             obtain ⟨ad508, A508_1, c508_1, A508_2, c508_2, e508, hx508_0, hx508_1, hx508_2, hl508_1, hi508_1, hl508_2, hi508_2⟩ := at_T45 HR1_1.out x6_3 p508 q508
             have hw508_2 := hx508_2
             have hw508_1 := hx508_1
             have hw508_0 := hx508_0
             cases e508
             replace hx508_0 := hs HB.out hx508_0
             replace hx508_1 := hs HB.out hx508_1
             replace hx508_2 := hs HB.out hx508_2
             have HR508_1 := aM hi508_1
             have HC508_1 := aM hl508_1
             clear hi508_1 hl508_1
             have HR508_2 := aM hi508_2
             have HC508_2 := aM hl508_2
             clear hi508_2 hl508_2
             replace p508 := eq_true p508
             replace q508 := eq_true q508
             refine start_ (n := 12) (S := fun w' => w'.cell? ⟨gb502, 0, none⟩ = some (.slice A0_0 l0_0.length c0_0) ∧ w'.cell? ⟨gb502, 1, none⟩ = some (.slice (some ad507) l0_1.length c0_1) ∧ w'.cell? ⟨gb502, 2, none⟩ = some (.slice A0_2 l0_2.length c0_2) ∧ w'.cell? ⟨gb503, 0, none⟩ = some (.slice A1_0 l1_0.length c1_0) ∧ w'.cell? ⟨gb503, 1, none⟩ = some (.slice (some ad508) l1_1.length c1_1) ∧ w'.cell? ⟨gb503, 2, none⟩ = some (.slice A1_2 l1_2.length c1_2) ∧ w'.cell? (ad507.add ((x6_3).toNat * 3)) = some (.int .i64 ((rd_T45 l0_1 x6_3).f0)) ∧ w'.cell? ⟨(ad507.add ((x6_3).toNat * 3)).block, (ad507.add ((x6_3).toNat * 3)).off + 1, none⟩ = some (.slice A507_1 ((rd_T45 l0_1 x6_3).f1).length c507_1) ∧ w'.cell? ⟨(ad507.add ((x6_3).toNat * 3)).block, (ad507.add ((x6_3).toNat * 3)).off + 2, none⟩ = some (.slice A507_2 ((rd_T45 l0_1 x6_3).f2).length c507_2) ∧ w'.cell? (ad508.add ((x6_3).toNat * 3)) = some (.int .i64 ((rd_T45 l1_1 x6_3).f0)) ∧ w'.cell? ⟨(ad508.add ((x6_3).toNat * 3)).block, (ad508.add ((x6_3).toNat * 3)).off + 1, none⟩ = some (.slice A508_1 ((rd_T45 l1_1 x6_3).f1).length c508_1) ∧ w'.cell? ⟨(ad508.add ((x6_3).toNat * 3)).block, (ad508.add ((x6_3).toNat * 3)).off + 2, none⟩ = some (.slice A508_2 ((rd_T45 l1_1 x6_3).f2).length c508_2)) (ds := []) #[false, false, false, false, false, false, false, false, false, false, false, false] (by kernel_rfl) rfl rfl ⟨(kC BK502.out 0).trans rfl, (kC BK502.out 1).trans rfl, (kC BK502.out 2).trans rfl, (kC BK503.out 0).trans rfl, (kC BK503.out 1).trans rfl, (kC BK503.out 2).trans rfl, ((HB.out.cell (World.block_lt_of_cell? w _ hw507_0)).trans hw507_0), ((HB.out.cell (World.block_lt_of_cell? w _ hw507_1)).trans hw507_1), ((HB.out.cell (World.block_lt_of_cell? w _ hw507_2)).trans hw507_2), ((HB.out.cell (World.block_lt_of_cell? w _ hw508_0)).trans hw508_0), ((HB.out.cell (World.block_lt_of_cell? w _ hw508_1)).trans hw508_1), ((HB.out.cell (World.block_lt_of_cell? w _ hw508_2)).trans hw508_2)⟩ (fun hHeld => ?_); refine with_tabW mapmakerref14_Same.tab11 mapmakerref14_Same.bits11 (fun HT_ HW_ => ?_)
             generalize wr.drew = w40 at BK502 BK503 HB HR507_1 HR507_2 HR508_1 HR508_2 hx507_0 hx507_1 hx507_2 hx508_0 hx508_1 hx508_2 hHeld ⊢
             refine pure_ (i := 0) (N := some 59) (v := ?_) (a' := ?_) (ba 12 1) rfl rfl (any_of HT_.out (by kernel_rfl)) (fun _ _ _ h => h) (Or.inl ⟨by rfl, ?_⟩) ?_ ?_
             rotate_left
             ·intro w'
              go_simp
              with_reducible rfl
             rotate_left
             ·simp only [Act.put, sA, sB, sC, i64_w, i32_w]
              rfl
             refine pure_ (i := 2) (N := some 61) (v := ?_) (a' := ?_) (ba 12 5) rfl rfl (any_of HT_.out (by kernel_rfl)) (fun _ _ _ h => h) (Or.inl ⟨by rfl, ?_⟩) ?_ ?_
             rotate_left
             ·intro w'
              go_simp
              with_reducible rfl
             rotate_left
             ·simp only [Act.put, sA, sB, sC, i64_w, i32_w]
              rfl
             refine pure_ (i := 5) (N := some 64) (v := ?_) (a' := ?_) (ba 12 37) rfl rfl (any_of HT_.out (by kernel_rfl)) (fun _ _ _ h => h) (Or.inl ⟨by rfl, ?_⟩) ?_ ?_
             rotate_left
             ·intro w'
              go_simp
              with_reducible rfl
             rotate_left
             ·simp only [Act.put, sA, sB, sC, i64_w, i32_w]
              rfl
             refine pure_ (i := 7) (N := some 66) (v := ?_) (a' := ?_) (ba 12 165) rfl rfl (any_of HT_.out (by kernel_rfl)) (fun _ _ _ h => h) (Or.inl ⟨by rfl, ?_⟩) ?_ ?_
             rotate_left
             ·intro w'
              go_simp
              with_reducible rfl
             rotate_left
             ·simp only [Act.put, sA, sB, sC, i64_w, i32_w]
              rfl
             refine take_ (i := 1) (N := some 60) (v := ?_) (a' := ?_) (ba 12 167) rfl rfl (take_ofW HT_.out HW_.out (by kernel_rfl)) (fun _ _ _ h => h) (Or.inl ⟨by rfl, ?_⟩) hHeld ?_ ?_
             rotate_left
             ·rintro w' ⟨s0, s1, s2, s3, s4, s5, s6, s7, s8, s9, s10, s11⟩
              go_simp
              with_reducible rfl
             rotate_left
             ·simp only [Act.put, sA, sB, sC, i64_w, i32_w]
              rfl
             refine pure_ (i := 3) (N := some 62) (v := ?_) (a' := ?_) (ba 12 175) rfl rfl (any_of HT_.out (by kernel_rfl)) (fun _ _ _ h => h) (Or.inl ⟨by rfl, ?_⟩) ?_ ?_
             rotate_left
             ·intro w'
              go_simp
              with_reducible rfl
             rotate_left
             ·simp only [Act.put, sA, sB, sC, i64_w, i32_w]
              rfl
             refine take_ (i := 4) (N := some 63) (v := ?_) (a' := ?_) (ba 12 191) rfl rfl (take_ofW HT_.out HW_.out (by kernel_rfl)) (fun _ _ _ h => h) (Or.inl ⟨by rfl, ?_⟩) hHeld ?_ ?_
             rotate_left
             ·rintro w' ⟨s0, s1, s2, s3, s4, s5, s6, s7, s8, s9, s10, s11⟩
              go_simp
              with_reducible rfl
             rotate_left
             ·simp only [Act.put, sA, sB, sC, i64_w, i32_w]
              rfl
             refine take_ (i := 6) (N := some 65) (v := ?_) (a' := ?_) (ba 12 255) rfl rfl (take_ofW HT_.out HW_.out (by kernel_rfl)) (fun _ _ _ h => h) (Or.inl ⟨by rfl, ?_⟩) hHeld ?_ ?_
             rotate_left
             ·rintro w' ⟨s0, s1, s2, s3, s4, s5, s6, s7, s8, s9, s10, s11⟩
              go_simp
              with_reducible rfl
             rotate_left
             ·simp only [Act.put, sA, sB, sC, i64_w, i32_w]
              rfl
             refine pure_ (i := 8) (N := some 67) (v := ?_) (a' := ?_) (ba 12 511) rfl rfl (any_of HT_.out (by kernel_rfl)) (fun _ _ _ h => h) (Or.inl ⟨by rfl, ?_⟩) ?_ ?_
             rotate_left
             ·intro w'
              go_simp
              with_reducible rfl
             rotate_left
             ·simp only [Act.put, sA, sB, sC, i64_w, i32_w]
              rfl
             refine take_ (i := 9) (N := some 68) (v := ?_) (a' := ?_) (ba 12 1023) rfl rfl (take_ofW HT_.out HW_.out (by kernel_rfl)) (fun _ _ _ h => h) (Or.inl ⟨by rfl, ?_⟩) hHeld ?_ ?_
             rotate_left
             ·rintro w' ⟨s0, s1, s2, s3, s4, s5, s6, s7, s8, s9, s10, s11⟩
              go_simp
              with_reducible rfl
             rotate_left
             ·simp only [Act.put, sA, sB, sC, i64_w, i32_w]
              rfl
             refine one_ (i := 10) (N := some 69) (ba 12 2047) rfl rfl (one_of HT_.out (by kernel_rfl)) (by decide) (fun K hK => ?_)
             refine goes_ Try.func17 (by kernel_rfl) rfl #[.agg #[.int .i64 ((rd_T45 l0_1 x6_3).f0), .slice A507_1 ((rd_T45 l0_1 x6_3).f1).length c507_1, .slice A507_2 ((rd_T45 l0_1 x6_3).f2).length c507_2], .agg #[.int .i64 ((rd_T45 l1_1 x6_3).f0), .slice A508_1 ((rd_T45 l1_1 x6_3).f1).length c508_1, .slice A508_2 ((rd_T45 l1_1 x6_3).f2).length c508_2]] (by rfl) rfl rfl (by (try simp only [List.map_toArray, List.map_cons, List.map_nil]); first | done | rfl | (simp only [List.length_drop, List.length_take]; rfl)) ?_
             with_reducible refine (mapmakerref14_SameWay.calls k3 ((rd_T45 l0_1 x6_3).f0) _ _ ((rd_T45 l0_1 x6_3).f1) _ _ ((rd_T45 l0_1 x6_3).f2) ((rd_T45 l1_1 x6_3).f0) _ _ ((rd_T45 l1_1 x6_3).f1) _ _ ((rd_T45 l1_1 x6_3).f2) true _ ?side1 ?side2 ?side3 ?side4 ?side5 ?side6 ?side7 ?side8 A36.out).mono ?_
             (case side1 => repeat (first | exact (Kd.C_below HR507_1.out HB.out) | (with_reducible refine cA ?_ _) | (with_reducible refine cN ?_ _) | (with_reducible refine cD ?_)))
             (case side2 => exact HC507_1.out)
             (case side3 => repeat (first | exact (Kd.C_below HR507_2.out HB.out) | (with_reducible refine cA ?_ _) | (with_reducible refine cN ?_ _) | (with_reducible refine cD ?_)))
             (case side4 => exact HC507_2.out)
             (case side5 => repeat (first | exact (Kd.C_below HR508_1.out HB.out) | (with_reducible refine cA ?_ _) | (with_reducible refine cN ?_ _) | (with_reducible refine cD ?_)))
             (case side6 => exact HC508_1.out)
             (case side7 => repeat (first | exact (Kd.C_below HR508_2.out HB.out) | (with_reducible refine cA ?_ _) | (with_reducible refine cN ?_ _) | (with_reducible refine cD ?_)))
             (case side8 => exact HC508_2.out)
             rintro e w41 ⟨rfl, hb⟩
             refine ⟨_, rfl, ?_⟩
             replace BK502 := aM (kB (kl BK502) hb)
             replace BK503 := aM (kB (kl BK503) hb)
             replace HB := aM (bS (bl) hb)
             (try clear hb)
             (try clear hb2)
             (try clear hk)
             (try clear hi)
             refine hK.out _ _ ⟨(kC BK502.out 0).trans rfl, (kC BK502.out 1).trans rfl, (kC BK502.out 2).trans rfl, (kC BK503.out 0).trans rfl, (kC BK503.out 1).trans rfl, (kC BK503.out 2).trans rfl, ((HB.out.cell (World.block_lt_of_cell? w _ hw507_0)).trans hw507_0), ((HB.out.cell (World.block_lt_of_cell? w _ hw507_1)).trans hw507_1), ((HB.out.cell (World.block_lt_of_cell? w _ hw507_2)).trans hw507_2), ((HB.out.cell (World.block_lt_of_cell? w _ hw508_0)).trans hw508_0), ((HB.out.cell (World.block_lt_of_cell? w _ hw508_1)).trans hw508_1), ((HB.out.cell (World.block_lt_of_cell? w _ hw508_2)).trans hw508_2)⟩ (fun hHeld => ?_)
             clear hK K
             refine norm_ (a' := ?_) ?_ ?_
             rotate_left
             ·show Act.put _ (some 69) _ = _
              simp only [Act.put, sA, sB, sC, i64_w, i32_w]
              rfl
             refine pure_ (i := 11) (N := some 70) (v := ?_) (a' := ?_) (ba 12 4095) rfl rfl (any_of HT_.out (by kernel_rfl)) (fun _ _ _ h => h) (Or.inl ⟨by rfl, ?_⟩) ?_ ?_
             rotate_left
             ·intro w'
              go_simp
              with_reducible rfl
             rotate_left
             ·simp only [Act.put, sA, sB, sC, i64_w, i32_w]
              rfl
             refine done_ (done_of HT_.out (by kernel_rfl)) ?_
             try go_wp2
             go_roundg k3
             case measure => have := HJ2.out; have := HK2.out; have := HK3.out; omega
             case rel => exact ⟨(wrap64 (x6_3 + 1)), (by first | rfl | (simp; done) | (simp [*]; done)), H', ⟨by have := HJ2.out; have := HK2.out; have := HK3.out; omega⟩, ⟨by (with_reducible repeat (first | refine kN ?_ _ | refine kD ?_ | refine kA ?_ _)); exact BK502.out⟩, ⟨by (with_reducible repeat (first | refine kN ?_ _ | refine kD ?_ | refine kA ?_ _)); exact BK503.out⟩, ⟨bl⟩⟩
            ·replace c37 := Bool.eq_false_iff.mpr c37
             subst c37
             have H1 : (some false) = some r := by rw [if_neg (show ¬ (false = true) by decide)] at H; exact H
             clear H
             have H := H1
             clear H1
             obtain rfl := Option.some.inj H
             have hnb42 := NB502_503.out
             have hnc42 := NB503_502.out
             have hcz43_0 : wr.cell? ⟨gb502, 0, none⟩ = some (.slice A0_0 l0_0.length c0_0) := (kC BK502.out 0).trans rfl
             have hcz43_1 : wr.cell? ⟨gb502, 1, none⟩ = some (.slice A0_1 l0_1.length c0_1) := (kC BK502.out 1).trans rfl
             have hcz43_2 : wr.cell? ⟨gb502, 2, none⟩ = some (.slice A0_2 l0_2.length c0_2) := (kC BK502.out 2).trans rfl
             have hfz43_0 := kF BK502.out 0
             have hfz43_1 := kF BK502.out 1
             have hfz43_2 := kF BK502.out 2
             try go_wp2
             replace BK502 := aM (kD BK502.out)
             replace BK503 := aM (kD BK503.out)
             replace HB := aM (bD HB.out)
             have p507 : 0 ≤ (x6_3 : Int) := oT
             have q507 : x6_3 < (l0_1.length : Int) := oT
             obtain ⟨ad507, A507_1, c507_1, A507_2, c507_2, e507, hx507_0, hx507_1, hx507_2, hl507_1, hi507_1, hl507_2, hi507_2⟩ := at_T45 HR0_1.out x6_3 p507 q507
             have hw507_2 := hx507_2
             have hw507_1 := hx507_1
             have hw507_0 := hx507_0
             cases e507
             replace hx507_0 := hs HB.out hx507_0
             replace hx507_1 := hs HB.out hx507_1
             replace hx507_2 := hs HB.out hx507_2
             have HR507_1 := aM hi507_1
             have HC507_1 := aM hl507_1
             clear hi507_1 hl507_1
             have HR507_2 := aM hi507_2
             have HC507_2 := aM hl507_2
             clear hi507_2 hl507_2
             replace p507 := eq_true p507
             replace q507 := eq_true q507
             have p508 : 0 ≤ (x6_3 : Int) := oT
             have q508 : x6_3 < (l1_1.length : Int) := oT
             obtain ⟨ad508, A508_1, c508_1, A508_2, c508_2, e508, hx508_0, hx508_1, hx508_2, hl508_1, hi508_1, hl508_2, hi508_2⟩ := at_T45 HR1_1.out x6_3 p508 q508
             have hw508_2 := hx508_2
             have hw508_1 := hx508_1
             have hw508_0 := hx508_0
             cases e508
             replace hx508_0 := hs HB.out hx508_0
             replace hx508_1 := hs HB.out hx508_1
             replace hx508_2 := hs HB.out hx508_2
             have HR508_1 := aM hi508_1
             have HC508_1 := aM hl508_1
             clear hi508_1 hl508_1
             have HR508_2 := aM hi508_2
             have HC508_2 := aM hl508_2
             clear hi508_2 hl508_2
             replace p508 := eq_true p508
             replace q508 := eq_true q508
             refine start_ (n := 12) (S := fun w' => w'.cell? ⟨gb502, 0, none⟩ = some (.slice A0_0 l0_0.length c0_0) ∧ w'.cell? ⟨gb502, 1, none⟩ = some (.slice (some ad507) l0_1.length c0_1) ∧ w'.cell? ⟨gb502, 2, none⟩ = some (.slice A0_2 l0_2.length c0_2) ∧ w'.cell? ⟨gb503, 0, none⟩ = some (.slice A1_0 l1_0.length c1_0) ∧ w'.cell? ⟨gb503, 1, none⟩ = some (.slice (some ad508) l1_1.length c1_1) ∧ w'.cell? ⟨gb503, 2, none⟩ = some (.slice A1_2 l1_2.length c1_2) ∧ w'.cell? (ad507.add ((x6_3).toNat * 3)) = some (.int .i64 ((rd_T45 l0_1 x6_3).f0)) ∧ w'.cell? ⟨(ad507.add ((x6_3).toNat * 3)).block, (ad507.add ((x6_3).toNat * 3)).off + 1, none⟩ = some (.slice A507_1 ((rd_T45 l0_1 x6_3).f1).length c507_1) ∧ w'.cell? ⟨(ad507.add ((x6_3).toNat * 3)).block, (ad507.add ((x6_3).toNat * 3)).off + 2, none⟩ = some (.slice A507_2 ((rd_T45 l0_1 x6_3).f2).length c507_2) ∧ w'.cell? (ad508.add ((x6_3).toNat * 3)) = some (.int .i64 ((rd_T45 l1_1 x6_3).f0)) ∧ w'.cell? ⟨(ad508.add ((x6_3).toNat * 3)).block, (ad508.add ((x6_3).toNat * 3)).off + 1, none⟩ = some (.slice A508_1 ((rd_T45 l1_1 x6_3).f1).length c508_1) ∧ w'.cell? ⟨(ad508.add ((x6_3).toNat * 3)).block, (ad508.add ((x6_3).toNat * 3)).off + 2, none⟩ = some (.slice A508_2 ((rd_T45 l1_1 x6_3).f2).length c508_2)) (ds := []) #[false, false, false, false, false, false, false, false, false, false, false, false] (by kernel_rfl) rfl rfl ⟨(kC BK502.out 0).trans rfl, (kC BK502.out 1).trans rfl, (kC BK502.out 2).trans rfl, (kC BK503.out 0).trans rfl, (kC BK503.out 1).trans rfl, (kC BK503.out 2).trans rfl, ((HB.out.cell (World.block_lt_of_cell? w _ hw507_0)).trans hw507_0), ((HB.out.cell (World.block_lt_of_cell? w _ hw507_1)).trans hw507_1), ((HB.out.cell (World.block_lt_of_cell? w _ hw507_2)).trans hw507_2), ((HB.out.cell (World.block_lt_of_cell? w _ hw508_0)).trans hw508_0), ((HB.out.cell (World.block_lt_of_cell? w _ hw508_1)).trans hw508_1), ((HB.out.cell (World.block_lt_of_cell? w _ hw508_2)).trans hw508_2)⟩ (fun hHeld => ?_); refine with_tabW mapmakerref14_Same.tab11 mapmakerref14_Same.bits11 (fun HT_ HW_ => ?_)
             generalize wr.drew = w44 at BK502 BK503 HB HR507_1 HR507_2 HR508_1 HR508_2 hx507_0 hx507_1 hx507_2 hx508_0 hx508_1 hx508_2 hHeld ⊢
             refine pure_ (i := 0) (N := some 59) (v := ?_) (a' := ?_) (ba 12 1) rfl rfl (any_of HT_.out (by kernel_rfl)) (fun _ _ _ h => h) (Or.inl ⟨by rfl, ?_⟩) ?_ ?_
             rotate_left
             ·intro w'
              go_simp
              with_reducible rfl
             rotate_left
             ·simp only [Act.put, sA, sB, sC, i64_w, i32_w]
              rfl
             refine pure_ (i := 2) (N := some 61) (v := ?_) (a' := ?_) (ba 12 5) rfl rfl (any_of HT_.out (by kernel_rfl)) (fun _ _ _ h => h) (Or.inl ⟨by rfl, ?_⟩) ?_ ?_
             rotate_left
             ·intro w'
              go_simp
              with_reducible rfl
             rotate_left
             ·simp only [Act.put, sA, sB, sC, i64_w, i32_w]
              rfl
             refine pure_ (i := 5) (N := some 64) (v := ?_) (a' := ?_) (ba 12 37) rfl rfl (any_of HT_.out (by kernel_rfl)) (fun _ _ _ h => h) (Or.inl ⟨by rfl, ?_⟩) ?_ ?_
             rotate_left
             ·intro w'
              go_simp
              with_reducible rfl
             rotate_left
             ·simp only [Act.put, sA, sB, sC, i64_w, i32_w]
              rfl
             refine pure_ (i := 7) (N := some 66) (v := ?_) (a' := ?_) (ba 12 165) rfl rfl (any_of HT_.out (by kernel_rfl)) (fun _ _ _ h => h) (Or.inl ⟨by rfl, ?_⟩) ?_ ?_
             rotate_left
             ·intro w'
              go_simp
              with_reducible rfl
             rotate_left
             ·simp only [Act.put, sA, sB, sC, i64_w, i32_w]
              rfl
             refine take_ (i := 1) (N := some 60) (v := ?_) (a' := ?_) (ba 12 167) rfl rfl (take_ofW HT_.out HW_.out (by kernel_rfl)) (fun _ _ _ h => h) (Or.inl ⟨by rfl, ?_⟩) hHeld ?_ ?_
             rotate_left
             ·rintro w' ⟨s0, s1, s2, s3, s4, s5, s6, s7, s8, s9, s10, s11⟩
              go_simp
              with_reducible rfl
             rotate_left
             ·simp only [Act.put, sA, sB, sC, i64_w, i32_w]
              rfl
             refine pure_ (i := 3) (N := some 62) (v := ?_) (a' := ?_) (ba 12 175) rfl rfl (any_of HT_.out (by kernel_rfl)) (fun _ _ _ h => h) (Or.inl ⟨by rfl, ?_⟩) ?_ ?_
             rotate_left
             ·intro w'
              go_simp
              with_reducible rfl
             rotate_left
             ·simp only [Act.put, sA, sB, sC, i64_w, i32_w]
              rfl
             refine take_ (i := 4) (N := some 63) (v := ?_) (a' := ?_) (ba 12 191) rfl rfl (take_ofW HT_.out HW_.out (by kernel_rfl)) (fun _ _ _ h => h) (Or.inl ⟨by rfl, ?_⟩) hHeld ?_ ?_
             rotate_left
             ·rintro w' ⟨s0, s1, s2, s3, s4, s5, s6, s7, s8, s9, s10, s11⟩
              go_simp
              with_reducible rfl
             rotate_left
             ·simp only [Act.put, sA, sB, sC, i64_w, i32_w]
              rfl
             refine take_ (i := 6) (N := some 65) (v := ?_) (a' := ?_) (ba 12 255) rfl rfl (take_ofW HT_.out HW_.out (by kernel_rfl)) (fun _ _ _ h => h) (Or.inl ⟨by rfl, ?_⟩) hHeld ?_ ?_
             rotate_left
             ·rintro w' ⟨s0, s1, s2, s3, s4, s5, s6, s7, s8, s9, s10, s11⟩
              go_simp
              with_reducible rfl
             rotate_left
             ·simp only [Act.put, sA, sB, sC, i64_w, i32_w]
              rfl
             refine pure_ (i := 8) (N := some 67) (v := ?_) (a' := ?_) (ba 12 511) rfl rfl (any_of HT_.out (by kernel_rfl)) (fun _ _ _ h => h) (Or.inl ⟨by rfl, ?_⟩) ?_ ?_
             rotate_left
             ·intro w'
              go_simp
              with_reducible rfl
             rotate_left
             ·simp only [Act.put, sA, sB, sC, i64_w, i32_w]
              rfl
             refine take_ (i := 9) (N := some 68) (v := ?_) (a' := ?_) (ba 12 1023) rfl rfl (take_ofW HT_.out HW_.out (by kernel_rfl)) (fun _ _ _ h => h) (Or.inl ⟨by rfl, ?_⟩) hHeld ?_ ?_
             rotate_left
             ·rintro w' ⟨s0, s1, s2, s3, s4, s5, s6, s7, s8, s9, s10, s11⟩
              go_simp
              with_reducible rfl
             rotate_left
             ·simp only [Act.put, sA, sB, sC, i64_w, i32_w]
              rfl
             refine one_ (i := 10) (N := some 69) (ba 12 2047) rfl rfl (one_of HT_.out (by kernel_rfl)) (by decide) (fun K hK => ?_)
             refine goes_ Try.func17 (by kernel_rfl) rfl #[.agg #[.int .i64 ((rd_T45 l0_1 x6_3).f0), .slice A507_1 ((rd_T45 l0_1 x6_3).f1).length c507_1, .slice A507_2 ((rd_T45 l0_1 x6_3).f2).length c507_2], .agg #[.int .i64 ((rd_T45 l1_1 x6_3).f0), .slice A508_1 ((rd_T45 l1_1 x6_3).f1).length c508_1, .slice A508_2 ((rd_T45 l1_1 x6_3).f2).length c508_2]] (by rfl) rfl rfl (by (try simp only [List.map_toArray, List.map_cons, List.map_nil]); first | done | rfl | (simp only [List.length_drop, List.length_take]; rfl)) ?_
             with_reducible refine (mapmakerref14_SameWay.calls k3 ((rd_T45 l0_1 x6_3).f0) _ _ ((rd_T45 l0_1 x6_3).f1) _ _ ((rd_T45 l0_1 x6_3).f2) ((rd_T45 l1_1 x6_3).f0) _ _ ((rd_T45 l1_1 x6_3).f1) _ _ ((rd_T45 l1_1 x6_3).f2) false _ ?side1 ?side2 ?side3 ?side4 ?side5 ?side6 ?side7 ?side8 A36.out).mono ?_
             (case side1 => repeat (first | exact (Kd.C_below HR507_1.out HB.out) | (with_reducible refine cA ?_ _) | (with_reducible refine cN ?_ _) | (with_reducible refine cD ?_)))
             (case side2 => exact HC507_1.out)
             (case side3 => repeat (first | exact (Kd.C_below HR507_2.out HB.out) | (with_reducible refine cA ?_ _) | (with_reducible refine cN ?_ _) | (with_reducible refine cD ?_)))
             (case side4 => exact HC507_2.out)
             (case side5 => repeat (first | exact (Kd.C_below HR508_1.out HB.out) | (with_reducible refine cA ?_ _) | (with_reducible refine cN ?_ _) | (with_reducible refine cD ?_)))
             (case side6 => exact HC508_1.out)
             (case side7 => repeat (first | exact (Kd.C_below HR508_2.out HB.out) | (with_reducible refine cA ?_ _) | (with_reducible refine cN ?_ _) | (with_reducible refine cD ?_)))
             (case side8 => exact HC508_2.out)
             rintro e w45 ⟨rfl, hb⟩
             refine ⟨_, rfl, ?_⟩
             replace BK502 := aM (kB (kl BK502) hb)
             replace BK503 := aM (kB (kl BK503) hb)
             replace HB := aM (bS (bl) hb)
             (try clear hb)
             (try clear hb2)
             (try clear hk)
             (try clear hi)
             refine hK.out _ _ ⟨(kC BK502.out 0).trans rfl, (kC BK502.out 1).trans rfl, (kC BK502.out 2).trans rfl, (kC BK503.out 0).trans rfl, (kC BK503.out 1).trans rfl, (kC BK503.out 2).trans rfl, ((HB.out.cell (World.block_lt_of_cell? w _ hw507_0)).trans hw507_0), ((HB.out.cell (World.block_lt_of_cell? w _ hw507_1)).trans hw507_1), ((HB.out.cell (World.block_lt_of_cell? w _ hw507_2)).trans hw507_2), ((HB.out.cell (World.block_lt_of_cell? w _ hw508_0)).trans hw508_0), ((HB.out.cell (World.block_lt_of_cell? w _ hw508_1)).trans hw508_1), ((HB.out.cell (World.block_lt_of_cell? w _ hw508_2)).trans hw508_2)⟩ (fun hHeld => ?_)
             clear hK K
             refine norm_ (a' := ?_) ?_ ?_
             rotate_left
             ·show Act.put _ (some 69) _ = _
              simp only [Act.put, sA, sB, sC, i64_w, i32_w]
              rfl
             refine pure_ (i := 11) (N := some 70) (v := ?_) (a' := ?_) (ba 12 4095) rfl rfl (any_of HT_.out (by kernel_rfl)) (fun _ _ _ h => h) (Or.inl ⟨by rfl, ?_⟩) ?_ ?_
             rotate_left
             ·intro w'
              go_simp
              with_reducible rfl
             rotate_left
             ·simp only [Act.put, sA, sB, sC, i64_w, i32_w]
              rfl
             refine done_ (done_of HT_.out (by kernel_rfl)) ?_
             try go_wp2
             go_ret
             exact ⟨by first | rfl | (simp [errW_none, errW_some] <;> rfl) | (simp [*, errW_none, errW_some] <;> rfl), bl⟩
           ·rw [if_neg c35] at H
            exact absurd H (by simp)
          ·rw [if_neg c34] at H
           exact absurd H (by simp)
         ·rw [if_neg c33] at H
          have c33b0 : decide (x6_3 < (l0_1.length : Int)) = false := decide_eq_false c33
          clear c33
          have H' := aM H
          clear H
          have hnb46 := NB502_503.out
          have hnc46 := NB503_502.out
          have hcz47_0 : wr.cell? ⟨gb502, 0, none⟩ = some (.slice A0_0 l0_0.length c0_0) := (kC BK502.out 0).trans rfl
          have hcz47_1 : wr.cell? ⟨gb502, 1, none⟩ = some (.slice A0_1 l0_1.length c0_1) := (kC BK502.out 1).trans rfl
          have hcz47_2 : wr.cell? ⟨gb502, 2, none⟩ = some (.slice A0_2 l0_2.length c0_2) := (kC BK502.out 2).trans rfl
          have hfz47_0 := kF BK502.out 0
          have hfz47_1 := kF BK502.out 1
          have hfz47_2 := kF BK502.out 2
          go_wp2
          go_loopg [7] k3 (fun kq v7 w' => ∃ (x7_4 : Int), v7 = .int .i64 x7_4 ∧ Aside0 (mapmakerref14_Same.l2 kq x7_4 l0_0 l0_1 l0_2 l1_0 l1_1 l1_2 = some r) ∧ Aside0 (kq ≤ k3) ∧ Aside0 (w'.heap[gb502]? = some (.cells #[(.slice A0_0 l0_0.length c0_0), (.slice A0_1 l0_1.length c0_1), (.slice A0_2 l0_2.length c0_2)] 26 (0, 0))) ∧ Aside0 (w'.heap[gb503]? = some (.cells #[(.slice A1_0 l1_0.length c1_0), (.slice A1_1 l1_1.length c1_1), (.slice A1_2 l1_2.length c1_2)] 26 (0, 0))) ∧ Aside0 (Below w.heap.size w w'))
          case atStart => exact ⟨(0), (by first | rfl | (simp; done) | (simp [*]; done)), H', ⟨Nat.le_refl _⟩, ⟨by (with_reducible repeat (first | refine kN ?_ _ | refine kD ?_ | refine kA ?_ _)); exact BK502.out⟩, ⟨by (with_reducible repeat (first | refine kN ?_ _ | refine kD ?_ | refine kA ?_ _)); exact BK503.out⟩, ⟨bl⟩⟩
          case round =>
           clear H'
           try clear c1
           try clear c2
           try clear p2
           try clear c3
           try clear c4
           try clear c5
           try clear p5
           try clear q5
           try clear hx5
           try clear c6
           try clear c6b0
           try clear c6b1
           try clear c6b2
           try clear p6
           try clear c7
           try clear c7b0
           try clear c7b1
           try clear c7b2
           try clear c8
           try clear c11
           try clear c14
           try clear c17
           try clear c18
           try clear c18b0
           try clear c19
           try clear c19b0
           try clear c20
           try clear c20b0
           try clear c22
           try clear c23
           try clear c27
           try clear c31
           try clear c33
           try clear c33b0
           try clear c34
           try clear c34b0
           try clear c35
           try clear c35b0
           try clear c37
           try clear c38
           try clear c42
           try clear c46
           try clear hcz10_0 hcz10_1 hcz10_2 hfz10_0 hfz10_1 hfz10_2
           try clear hcz12_0 hcz12_1 hcz12_2 hfz12_0 hfz12_1 hfz12_2
           try clear hcz13_0 hcz13_1 hcz13_2 hfz13_0 hfz13_1 hfz13_2
           try clear hcz15_0 hcz15_1 hcz15_2 hfz15_0 hfz15_1 hfz15_2
           try clear hcz16_0 hcz16_1 hcz16_2 hfz16_0 hfz16_1 hfz16_2
           try clear hcz24_0 hcz24_1 hcz24_2 hfz24_0 hfz24_1 hfz24_2
           try clear hcz28_0 hcz28_1 hcz28_2 hfz28_0 hfz28_1 hfz28_2
           try clear hcz32_0 hcz32_1 hcz32_2 hfz32_0 hfz32_1 hfz32_2
           try clear hcz39_0 hcz39_1 hcz39_2 hfz39_0 hfz39_1 hfz39_2
           try clear hcz43_0 hcz43_1 hcz43_2 hfz43_0 hfz43_1 hfz43_2
           try clear hcz47_0 hcz47_1 hcz47_2 hfz47_0 hfz47_1 hfz47_2
           try clear hcz9_0 hcz9_1 hcz9_2 hfz9_0 hfz9_1 hfz9_2
           try clear hx504_0
           try clear hx504_1
           try clear hx504_2
           try clear hx504_3
           try clear hx505_0
           try clear hx505_1
           try clear hx505_2
           try clear hx505_3
           try clear hx507_0
           try clear hx507_1
           try clear hx507_2
           try clear hx508_0
           try clear hx508_1
           try clear hx508_2
           try clear p2
           try clear p5
           try clear p504
           try clear p505
           try clear p507
           try clear p508
           try clear p6
           try clear q5
           try clear q504
           try clear q505
           try clear q507
           try clear q508
           obtain ⟨x7_4, rfl, HA, HK4, BK502, BK503, HB⟩ := hrel
           cases gk with
           | zero => exact absurd HA.out (by simp [mapmakerref14_Same.l2])
           | succ k4 =>
            have H := HA.out
            clear HA
            simp only [mapmakerref14_Same.l2] at H
            by_cases c48 : x7_4 < (l0_2.length : Int)
            ·rw [if_pos c48] at H
             have c48b0 : decide (x7_4 < (l0_2.length : Int)) = true := decide_eq_true c48
             clear c48
             by_cases c49 : 0 ≤ x7_4
             ·rw [if_pos c49] at H
              have c49b0 : decide (0 ≤ x7_4) = true := decide_eq_true c49
              clear c49
              by_cases c50 : x7_4 < (l1_2.length : Int)
              ·rw [if_pos c50] at H
               have c50b0 : decide (x7_4 < (l1_2.length : Int)) = true := decide_eq_true c50
               clear c50
               replace H := Option.bind_eq_some_iff.mp H
               obtain ⟨t512, A510, H⟩ := H
               try dsimp only at H
               have A51 := aM A510
               clear A510
               by_cases c52 : t512 = true
               ·subst c52
                have H1 : (mapmakerref14_Same.l2 k4 (wrap64 (x7_4 + 1)) l0_0 l0_1 l0_2 l1_0 l1_1 l1_2) = some r := by rw [if_pos rfl] at H; exact H
                clear H
                have H := H1
                clear H1
                have H' := aM H
                clear H
                have hnb53 := NB502_503.out
                have hnc53 := NB503_502.out
                have hcz54_0 : wr.cell? ⟨gb502, 0, none⟩ = some (.slice A0_0 l0_0.length c0_0) := (kC BK502.out 0).trans rfl
                have hcz54_1 : wr.cell? ⟨gb502, 1, none⟩ = some (.slice A0_1 l0_1.length c0_1) := (kC BK502.out 1).trans rfl
                have hcz54_2 : wr.cell? ⟨gb502, 2, none⟩ = some (.slice A0_2 l0_2.length c0_2) := (kC BK502.out 2).trans rfl
                have hfz54_0 := kF BK502.out 0
                have hfz54_1 := kF BK502.out 1
                have hfz54_2 := kF BK502.out 2
                try go_wp2
                replace BK502 := aM (kD BK502.out)
                replace BK503 := aM (kD BK503.out)
                replace HB := aM (bD HB.out)
                have p510 : 0 ≤ (x7_4 : Int) := oT
                have q510 : x7_4 < (l0_2.length : Int) := oT
                obtain ⟨ad510, A510_1, c510_1, A510_2, c510_2, e510, hx510_0, hx510_1, hx510_2, hl510_1, hi510_1, hl510_2, hi510_2⟩ := at_T51 HR0_2.out x7_4 p510 q510
                have hw510_2 := hx510_2
                have hw510_1 := hx510_1
                have hw510_0 := hx510_0
                cases e510
                replace hx510_0 := hs HB.out hx510_0
                replace hx510_1 := hs HB.out hx510_1
                replace hx510_2 := hs HB.out hx510_2
                have HR510_1 := aM hi510_1
                have HC510_1 := aM hl510_1
                clear hi510_1 hl510_1
                have HR510_2 := aM hi510_2
                have HC510_2 := aM hl510_2
                clear hi510_2 hl510_2
                replace p510 := eq_true p510
                replace q510 := eq_true q510
                have p511 : 0 ≤ (x7_4 : Int) := oT
                have q511 : x7_4 < (l1_2.length : Int) := oT
                obtain ⟨ad511, A511_1, c511_1, A511_2, c511_2, e511, hx511_0, hx511_1, hx511_2, hl511_1, hi511_1, hl511_2, hi511_2⟩ := at_T51 HR1_2.out x7_4 p511 q511
                have hw511_2 := hx511_2
                have hw511_1 := hx511_1
                have hw511_0 := hx511_0
                cases e511
                replace hx511_0 := hs HB.out hx511_0
                replace hx511_1 := hs HB.out hx511_1
                replace hx511_2 := hs HB.out hx511_2
                have HR511_1 := aM hi511_1
                have HC511_1 := aM hl511_1
                clear hi511_1 hl511_1
                have HR511_2 := aM hi511_2
                have HC511_2 := aM hl511_2
                clear hi511_2 hl511_2
                replace p511 := eq_true p511
                replace q511 := eq_true q511
                refine start_ (n := 12) (S := fun w' => w'.cell? ⟨gb502, 0, none⟩ = some (.slice A0_0 l0_0.length c0_0) ∧ w'.cell? ⟨gb502, 1, none⟩ = some (.slice A0_1 l0_1.length c0_1) ∧ w'.cell? ⟨gb502, 2, none⟩ = some (.slice (some ad510) l0_2.length c0_2) ∧ w'.cell? ⟨gb503, 0, none⟩ = some (.slice A1_0 l1_0.length c1_0) ∧ w'.cell? ⟨gb503, 1, none⟩ = some (.slice A1_1 l1_1.length c1_1) ∧ w'.cell? ⟨gb503, 2, none⟩ = some (.slice (some ad511) l1_2.length c1_2) ∧ w'.cell? (ad510.add ((x7_4).toNat * 3)) = some (.int .i64 ((rd_T51 l0_2 x7_4).f0)) ∧ w'.cell? ⟨(ad510.add ((x7_4).toNat * 3)).block, (ad510.add ((x7_4).toNat * 3)).off + 1, none⟩ = some (.slice A510_1 ((rd_T51 l0_2 x7_4).f1).length c510_1) ∧ w'.cell? ⟨(ad510.add ((x7_4).toNat * 3)).block, (ad510.add ((x7_4).toNat * 3)).off + 2, none⟩ = some (.slice A510_2 ((rd_T51 l0_2 x7_4).f2).length c510_2) ∧ w'.cell? (ad511.add ((x7_4).toNat * 3)) = some (.int .i64 ((rd_T51 l1_2 x7_4).f0)) ∧ w'.cell? ⟨(ad511.add ((x7_4).toNat * 3)).block, (ad511.add ((x7_4).toNat * 3)).off + 1, none⟩ = some (.slice A511_1 ((rd_T51 l1_2 x7_4).f1).length c511_1) ∧ w'.cell? ⟨(ad511.add ((x7_4).toNat * 3)).block, (ad511.add ((x7_4).toNat * 3)).off + 2, none⟩ = some (.slice A511_2 ((rd_T51 l1_2 x7_4).f2).length c511_2)) (ds := []) #[false, false, false, false, false, false, false, false, false, false, false, false] (by kernel_rfl) rfl rfl ⟨(kC BK502.out 0).trans rfl, (kC BK502.out 1).trans rfl, (kC BK502.out 2).trans rfl, (kC BK503.out 0).trans rfl, (kC BK503.out 1).trans rfl, (kC BK503.out 2).trans rfl, ((HB.out.cell (World.block_lt_of_cell? w _ hw510_0)).trans hw510_0), ((HB.out.cell (World.block_lt_of_cell? w _ hw510_1)).trans hw510_1), ((HB.out.cell (World.block_lt_of_cell? w _ hw510_2)).trans hw510_2), ((HB.out.cell (World.block_lt_of_cell? w _ hw511_0)).trans hw511_0), ((HB.out.cell (World.block_lt_of_cell? w _ hw511_1)).trans hw511_1), ((HB.out.cell (World.block_lt_of_cell? w _ hw511_2)).trans hw511_2)⟩ (fun hHeld => ?_); refine with_tabW mapmakerref14_Same.tab16 mapmakerref14_Same.bits16 (fun HT_ HW_ => ?_)
                generalize wr.drew = w55 at BK502 BK503 HB HR510_1 HR510_2 HR511_1 HR511_2 hx510_0 hx510_1 hx510_2 hx511_0 hx511_1 hx511_2 hHeld ⊢
                refine pure_ (i := 0) (N := some 78) (v := ?_) (a' := ?_) (ba 12 1) rfl rfl (any_of HT_.out (by kernel_rfl)) (fun _ _ _ h => h) (Or.inl ⟨by rfl, ?_⟩) ?_ ?_
                rotate_left
                ·intro w'
                 go_simp
                 with_reducible rfl
                rotate_left
                ·simp only [Act.put, sA, sB, sC, i64_w, i32_w]
                 rfl
                refine pure_ (i := 2) (N := some 80) (v := ?_) (a' := ?_) (ba 12 5) rfl rfl (any_of HT_.out (by kernel_rfl)) (fun _ _ _ h => h) (Or.inl ⟨by rfl, ?_⟩) ?_ ?_
                rotate_left
                ·intro w'
                 go_simp
                 with_reducible rfl
                rotate_left
                ·simp only [Act.put, sA, sB, sC, i64_w, i32_w]
                 rfl
                refine pure_ (i := 5) (N := some 83) (v := ?_) (a' := ?_) (ba 12 37) rfl rfl (any_of HT_.out (by kernel_rfl)) (fun _ _ _ h => h) (Or.inl ⟨by rfl, ?_⟩) ?_ ?_
                rotate_left
                ·intro w'
                 go_simp
                 with_reducible rfl
                rotate_left
                ·simp only [Act.put, sA, sB, sC, i64_w, i32_w]
                 rfl
                refine pure_ (i := 7) (N := some 85) (v := ?_) (a' := ?_) (ba 12 165) rfl rfl (any_of HT_.out (by kernel_rfl)) (fun _ _ _ h => h) (Or.inl ⟨by rfl, ?_⟩) ?_ ?_
                rotate_left
                ·intro w'
                 go_simp
                 with_reducible rfl
                rotate_left
                ·simp only [Act.put, sA, sB, sC, i64_w, i32_w]
                 rfl
                refine take_ (i := 1) (N := some 79) (v := ?_) (a' := ?_) (ba 12 167) rfl rfl (take_ofW HT_.out HW_.out (by kernel_rfl)) (fun _ _ _ h => h) (Or.inl ⟨by rfl, ?_⟩) hHeld ?_ ?_
                rotate_left
                ·rintro w' ⟨s0, s1, s2, s3, s4, s5, s6, s7, s8, s9, s10, s11⟩
                 go_simp
                 with_reducible rfl
                rotate_left
                ·simp only [Act.put, sA, sB, sC, i64_w, i32_w]
                 rfl
                refine pure_ (i := 3) (N := some 81) (v := ?_) (a' := ?_) (ba 12 175) rfl rfl (any_of HT_.out (by kernel_rfl)) (fun _ _ _ h => h) (Or.inl ⟨by rfl, ?_⟩) ?_ ?_
                rotate_left
                ·intro w'
                 go_simp
                 with_reducible rfl
                rotate_left
                ·simp only [Act.put, sA, sB, sC, i64_w, i32_w]
                 rfl
                refine take_ (i := 4) (N := some 82) (v := ?_) (a' := ?_) (ba 12 191) rfl rfl (take_ofW HT_.out HW_.out (by kernel_rfl)) (fun _ _ _ h => h) (Or.inl ⟨by rfl, ?_⟩) hHeld ?_ ?_
                rotate_left
                ·rintro w' ⟨s0, s1, s2, s3, s4, s5, s6, s7, s8, s9, s10, s11⟩
                 go_simp
                 with_reducible rfl
                rotate_left
                ·simp only [Act.put, sA, sB, sC, i64_w, i32_w]
                 rfl
                refine take_ (i := 6) (N := some 84) (v := ?_) (a' := ?_) (ba 12 255) rfl rfl (take_ofW HT_.out HW_.out (by kernel_rfl)) (fun _ _ _ h => h) (Or.inl ⟨by rfl, ?_⟩) hHeld ?_ ?_
                rotate_left
                ·rintro w' ⟨s0, s1, s2, s3, s4, s5, s6, s7, s8, s9, s10, s11⟩
                 go_simp
                 with_reducible rfl
                rotate_left
                ·simp only [Act.put, sA, sB, sC, i64_w, i32_w]
                 rfl
                refine pure_ (i := 8) (N := some 86) (v := ?_) (a' := ?_) (ba 12 511) rfl rfl (any_of HT_.out (by kernel_rfl)) (fun _ _ _ h => h) (Or.inl ⟨by rfl, ?_⟩) ?_ ?_
                rotate_left
                ·intro w'
                 go_simp
                 with_reducible rfl
                rotate_left
                ·simp only [Act.put, sA, sB, sC, i64_w, i32_w]
                 rfl
                refine take_ (i := 9) (N := some 87) (v := ?_) (a' := ?_) (ba 12 1023) rfl rfl (take_ofW HT_.out HW_.out (by kernel_rfl)) (fun _ _ _ h => h) (Or.inl ⟨by rfl, ?_⟩) hHeld ?_ ?_
                rotate_left
                ·rintro w' ⟨s0, s1, s2, s3, s4, s5, s6, s7, s8, s9, s10, s11⟩
                 go_simp
                 with_reducible rfl
                rotate_left
                ·simp only [Act.put, sA, sB, sC, i64_w, i32_w]
                 rfl
                refine one_ (i := 10) (N := some 88) (ba 12 2047) rfl rfl (one_of HT_.out (by kernel_rfl)) (by decide) (fun K hK => ?_)
                refine goes_ Try.func20 (by kernel_rfl) rfl #[.agg #[.int .i64 ((rd_T51 l0_2 x7_4).f0), .slice A510_1 ((rd_T51 l0_2 x7_4).f1).length c510_1, .slice A510_2 ((rd_T51 l0_2 x7_4).f2).length c510_2], .agg #[.int .i64 ((rd_T51 l1_2 x7_4).f0), .slice A511_1 ((rd_T51 l1_2 x7_4).f1).length c511_1, .slice A511_2 ((rd_T51 l1_2 x7_4).f2).length c511_2]] (by rfl) rfl rfl (by (try simp only [List.map_toArray, List.map_cons, List.map_nil]); first | done | rfl | (simp only [List.length_drop, List.length_take]; rfl)) ?_
                with_reducible refine (mapmakerref14_SameRel.calls k4 ((rd_T51 l0_2 x7_4).f0) _ _ ((rd_T51 l0_2 x7_4).f1) _ _ ((rd_T51 l0_2 x7_4).f2) ((rd_T51 l1_2 x7_4).f0) _ _ ((rd_T51 l1_2 x7_4).f1) _ _ ((rd_T51 l1_2 x7_4).f2) true _ ?side1 ?side2 ?side3 ?side4 ?side5 ?side6 ?side7 ?side8 A51.out).mono ?_
                (case side1 => repeat (first | exact (Kd.C_below HR510_1.out HB.out) | (with_reducible refine cA ?_ _) | (with_reducible refine cN ?_ _) | (with_reducible refine cD ?_)))
                (case side2 => exact HC510_1.out)
                (case side3 => repeat (first | exact (Kd.C_below HR510_2.out HB.out) | (with_reducible refine cA ?_ _) | (with_reducible refine cN ?_ _) | (with_reducible refine cD ?_)))
                (case side4 => exact HC510_2.out)
                (case side5 => repeat (first | exact (Kd.C_below HR511_1.out HB.out) | (with_reducible refine cA ?_ _) | (with_reducible refine cN ?_ _) | (with_reducible refine cD ?_)))
                (case side6 => exact HC511_1.out)
                (case side7 => repeat (first | exact (Kd.C_below HR511_2.out HB.out) | (with_reducible refine cA ?_ _) | (with_reducible refine cN ?_ _) | (with_reducible refine cD ?_)))
                (case side8 => exact HC511_2.out)
                rintro e w56 ⟨rfl, hb⟩
                refine ⟨_, rfl, ?_⟩
                replace BK502 := aM (kB (kl BK502) hb)
                replace BK503 := aM (kB (kl BK503) hb)
                replace HB := aM (bS (bl) hb)
                (try clear hb)
                (try clear hb2)
                (try clear hk)
                (try clear hi)
                refine hK.out _ _ ⟨(kC BK502.out 0).trans rfl, (kC BK502.out 1).trans rfl, (kC BK502.out 2).trans rfl, (kC BK503.out 0).trans rfl, (kC BK503.out 1).trans rfl, (kC BK503.out 2).trans rfl, ((HB.out.cell (World.block_lt_of_cell? w _ hw510_0)).trans hw510_0), ((HB.out.cell (World.block_lt_of_cell? w _ hw510_1)).trans hw510_1), ((HB.out.cell (World.block_lt_of_cell? w _ hw510_2)).trans hw510_2), ((HB.out.cell (World.block_lt_of_cell? w _ hw511_0)).trans hw511_0), ((HB.out.cell (World.block_lt_of_cell? w _ hw511_1)).trans hw511_1), ((HB.out.cell (World.block_lt_of_cell? w _ hw511_2)).trans hw511_2)⟩ (fun hHeld => ?_)
                clear hK K
                refine norm_ (a' := ?_) ?_ ?_
                rotate_left
                ·show Act.put _ (some 88) _ = _
                 simp only [Act.put, sA, sB, sC, i64_w, i32_w]
                 rfl
                refine pure_ (i := 11) (N := some 89) (v := ?_) (a' := ?_) (ba 12 4095) rfl rfl (any_of HT_.out (by kernel_rfl)) (fun _ _ _ h => h) (Or.inl ⟨by rfl, ?_⟩) ?_ ?_
                rotate_left
                ·intro w'
                 go_simp
                 with_reducible rfl
                rotate_left
                ·simp only [Act.put, sA, sB, sC, i64_w, i32_w]
                 rfl
                refine done_ (done_of HT_.out (by kernel_rfl)) ?_
                try go_wp2
                go_roundg k4
                case measure => have := HJ2.out; have := HK2.out; have := HK3.out; have := HK4.out; omega
                case rel => exact ⟨(wrap64 (x7_4 + 1)), (by first | rfl | (simp; done) | (simp [*]; done)), H', ⟨by have := HJ2.out; have := HK2.out; have := HK3.out; have := HK4.out; omega⟩, ⟨by (with_reducible repeat (first | refine kN ?_ _ | refine kD ?_ | refine kA ?_ _)); exact BK502.out⟩, ⟨by (with_reducible repeat (first | refine kN ?_ _ | refine kD ?_ | refine kA ?_ _)); exact BK503.out⟩, ⟨bl⟩⟩
               ·replace c52 := Bool.eq_false_iff.mpr c52
                subst c52
                have H1 : (some false) = some r := by rw [if_neg (show ¬ (false = true) by decide)] at H; exact H
                clear H
                have H := H1
                clear H1
                obtain rfl := Option.some.inj H
                have hnb57 := NB502_503.out
                have hnc57 := NB503_502.out
                have hcz58_0 : wr.cell? ⟨gb502, 0, none⟩ = some (.slice A0_0 l0_0.length c0_0) := (kC BK502.out 0).trans rfl
                have hcz58_1 : wr.cell? ⟨gb502, 1, none⟩ = some (.slice A0_1 l0_1.length c0_1) := (kC BK502.out 1).trans rfl
                have hcz58_2 : wr.cell? ⟨gb502, 2, none⟩ = some (.slice A0_2 l0_2.length c0_2) := (kC BK502.out 2).trans rfl
                have hfz58_0 := kF BK502.out 0
                have hfz58_1 := kF BK502.out 1
                have hfz58_2 := kF BK502.out 2
                try go_wp2
                replace BK502 := aM (kD BK502.out)
                replace BK503 := aM (kD BK503.out)
                replace HB := aM (bD HB.out)
                have p510 : 0 ≤ (x7_4 : Int) := oT
                have q510 : x7_4 < (l0_2.length : Int) := oT
                obtain ⟨ad510, A510_1, c510_1, A510_2, c510_2, e510, hx510_0, hx510_1, hx510_2, hl510_1, hi510_1, hl510_2, hi510_2⟩ := at_T51 HR0_2.out x7_4 p510 q510
                have hw510_2 := hx510_2
                have hw510_1 := hx510_1
                have hw510_0 := hx510_0
                cases e510
                replace hx510_0 := hs HB.out hx510_0
                replace hx510_1 := hs HB.out hx510_1
                replace hx510_2 := hs HB.out hx510_2
                have HR510_1 := aM hi510_1
                have HC510_1 := aM hl510_1
                clear hi510_1 hl510_1
                have HR510_2 := aM hi510_2
                have HC510_2 := aM hl510_2
                clear hi510_2 hl510_2
                replace p510 := eq_true p510
                replace q510 := eq_true q510
                have p511 : 0 ≤ (x7_4 : Int) := oT
                have q511 : x7_4 < (l1_2.length : Int) := oT
                obtain ⟨ad511, A511_1, c511_1, A511_2, c511_2, e511, hx511_0, hx511_1, hx511_2, hl511_1, hi511_1, hl511_2, hi511_2⟩ := at_T51 HR1_2.out x7_4 p511 q511
                have hw511_2 := hx511_2
                have hw511_1 := hx511_1
                have hw511_0 := hx511_0
                cases e511
                replace hx511_0 := hs HB.out hx511_0
                replace hx511_1 := hs HB.out hx511_1
                replace hx511_2 := hs HB.out hx511_2
                have HR511_1 := aM hi511_1
                have HC511_1 := aM hl511_1
                clear hi511_1 hl511_1
                have HR511_2 := aM hi511_2
                have HC511_2 := aM hl511_2
                clear hi511_2 hl511_2
                replace p511 := eq_true p511
                replace q511 := eq_true q511
                refine start_ (n := 12) (S := fun w' => w'.cell? ⟨gb502, 0, none⟩ = some (.slice A0_0 l0_0.length c0_0) ∧ w'.cell? ⟨gb502, 1, none⟩ = some (.slice A0_1 l0_1.length c0_1) ∧ w'.cell? ⟨gb502, 2, none⟩ = some (.slice (some ad510) l0_2.length c0_2) ∧ w'.cell? ⟨gb503, 0, none⟩ = some (.slice A1_0 l1_0.length c1_0) ∧ w'.cell? ⟨gb503, 1, none⟩ = some (.slice A1_1 l1_1.length c1_1) ∧ w'.cell? ⟨gb503, 2, none⟩ = some (.slice (some ad511) l1_2.length c1_2) ∧ w'.cell? (ad510.add ((x7_4).toNat * 3)) = some (.int .i64 ((rd_T51 l0_2 x7_4).f0)) ∧ w'.cell? ⟨(ad510.add ((x7_4).toNat * 3)).block, (ad510.add ((x7_4).toNat * 3)).off + 1, none⟩ = some (.slice A510_1 ((rd_T51 l0_2 x7_4).f1).length c510_1) ∧ w'.cell? ⟨(ad510.add ((x7_4).toNat * 3)).block, (ad510.add ((x7_4).toNat * 3)).off + 2, none⟩ = some (.slice A510_2 ((rd_T51 l0_2 x7_4).f2).length c510_2) ∧ w'.cell? (ad511.add ((x7_4).toNat * 3)) = some (.int .i64 ((rd_T51 l1_2 x7_4).f0)) ∧ w'.cell? ⟨(ad511.add ((x7_4).toNat * 3)).block, (ad511.add ((x7_4).toNat * 3)).off + 1, none⟩ = some (.slice A511_1 ((rd_T51 l1_2 x7_4).f1).length c511_1) ∧ w'.cell? ⟨(ad511.add ((x7_4).toNat * 3)).block, (ad511.add ((x7_4).toNat * 3)).off + 2, none⟩ = some (.slice A511_2 ((rd_T51 l1_2 x7_4).f2).length c511_2)) (ds := []) #[false, false, false, false, false, false, false, false, false, false, false, false] (by kernel_rfl) rfl rfl ⟨(kC BK502.out 0).trans rfl, (kC BK502.out 1).trans rfl, (kC BK502.out 2).trans rfl, (kC BK503.out 0).trans rfl, (kC BK503.out 1).trans rfl, (kC BK503.out 2).trans rfl, ((HB.out.cell (World.block_lt_of_cell? w _ hw510_0)).trans hw510_0), ((HB.out.cell (World.block_lt_of_cell? w _ hw510_1)).trans hw510_1), ((HB.out.cell (World.block_lt_of_cell? w _ hw510_2)).trans hw510_2), ((HB.out.cell (World.block_lt_of_cell? w _ hw511_0)).trans hw511_0), ((HB.out.cell (World.block_lt_of_cell? w _ hw511_1)).trans hw511_1), ((HB.out.cell (World.block_lt_of_cell? w _ hw511_2)).trans hw511_2)⟩ (fun hHeld => ?_); refine with_tabW mapmakerref14_Same.tab16 mapmakerref14_Same.bits16 (fun HT_ HW_ => ?_)
                generalize wr.drew = w59 at BK502 BK503 HB HR510_1 HR510_2 HR511_1 HR511_2 hx510_0 hx510_1 hx510_2 hx511_0 hx511_1 hx511_2 hHeld ⊢
                refine pure_ (i := 0) (N := some 78) (v := ?_) (a' := ?_) (ba 12 1) rfl rfl (any_of HT_.out (by kernel_rfl)) (fun _ _ _ h => h) (Or.inl ⟨by rfl, ?_⟩) ?_ ?_
                rotate_left
                ·intro w'
                 go_simp
                 with_reducible rfl
                rotate_left
                ·simp only [Act.put, sA, sB, sC, i64_w, i32_w]
                 rfl
                refine pure_ (i := 2) (N := some 80) (v := ?_) (a' := ?_) (ba 12 5) rfl rfl (any_of HT_.out (by kernel_rfl)) (fun _ _ _ h => h) (Or.inl ⟨by rfl, ?_⟩) ?_ ?_
                rotate_left
                ·intro w'
                 go_simp
                 with_reducible rfl
                rotate_left
                ·simp only [Act.put, sA, sB, sC, i64_w, i32_w]
                 rfl
                refine pure_ (i := 5) (N := some 83) (v := ?_) (a' := ?_) (ba 12 37) rfl rfl (any_of HT_.out (by kernel_rfl)) (fun _ _ _ h => h) (Or.inl ⟨by rfl, ?_⟩) ?_ ?_
                rotate_left
                ·intro w'
                 go_simp
                 with_reducible rfl
                rotate_left
                ·simp only [Act.put, sA, sB, sC, i64_w, i32_w]
                 rfl
                refine pure_ (i := 7) (N := some 85) (v := ?_) (a' := ?_) (ba 12 165) rfl rfl (any_of HT_.out (by kernel_rfl)) (fun _ _ _ h => h) (Or.inl ⟨by rfl, ?_⟩) ?_ ?_
                rotate_left
                ·intro w'
                 go_simp
                 with_reducible rfl
                rotate_left
                ·simp only [Act.put, sA, sB, sC, i64_w, i32_w]
                 rfl
                refine take_ (i := 1) (N := some 79) (v := ?_) (a' := ?_) (ba 12 167) rfl rfl (take_ofW HT_.out HW_.out (by kernel_rfl)) (fun _ _ _ h => h) (Or.inl ⟨by rfl, ?_⟩) hHeld ?_ ?_
                rotate_left
                ·rintro w' ⟨s0, s1, s2, s3, s4, s5, s6, s7, s8, s9, s10, s11⟩
                 go_simp
                 with_reducible rfl
                rotate_left
                ·simp only [Act.put, sA, sB, sC, i64_w, i32_w]
                 rfl
                refine pure_ (i := 3) (N := some 81) (v := ?_) (a' := ?_) (ba 12 175) rfl rfl (any_of HT_.out (by kernel_rfl)) (fun _ _ _ h => h) (Or.inl ⟨by rfl, ?_⟩) ?_ ?_
                rotate_left
                ·intro w'
                 go_simp
                 with_reducible rfl
                rotate_left
                ·simp only [Act.put, sA, sB, sC, i64_w, i32_w]
                 rfl
                refine take_ (i := 4) (N := some 82) (v := ?_) (a' := ?_) (ba 12 191) rfl rfl (take_ofW HT_.out HW_.out (by kernel_rfl)) (fun _ _ _ h => h) (Or.inl ⟨by rfl, ?_⟩) hHeld ?_ ?_
                rotate_left
                ·rintro w' ⟨s0, s1, s2, s3, s4, s5, s6, s7, s8, s9, s10, s11⟩
                 go_simp
                 with_reducible rfl
                rotate_left
                ·simp only [Act.put, sA, sB, sC, i64_w, i32_w]
                 rfl
                refine take_ (i := 6) (N := some 84) (v := ?_) (a' := ?_) (ba 12 255) rfl rfl (take_ofW HT_.out HW_.out (by kernel_rfl)) (fun _ _ _ h => h) (Or.inl ⟨by rfl, ?_⟩) hHeld ?_ ?_
                rotate_left
                ·rintro w' ⟨s0, s1, s2, s3, s4, s5, s6, s7, s8, s9, s10, s11⟩
                 go_simp
                 with_reducible rfl
                rotate_left
                ·simp only [Act.put, sA, sB, sC, i64_w, i32_w]
                 rfl
                refine pure_ (i := 8) (N := some 86) (v := ?_) (a' := ?_) (ba 12 511) rfl rfl (any_of HT_.out (by kernel_rfl)) (fun _ _ _ h => h) (Or.inl ⟨by rfl, ?_⟩) ?_ ?_
                rotate_left
                ·intro w'
                 go_simp
                 with_reducible rfl
                rotate_left
                ·simp only [Act.put, sA, sB, sC, i64_w, i32_w]
                 rfl
                refine take_ (i := 9) (N := some 87) (v := ?_) (a' := ?_) (ba 12 1023) rfl rfl (take_ofW HT_.out HW_.out (by kernel_rfl)) (fun _ _ _ h => h) (Or.inl ⟨by rfl, ?_⟩) hHeld ?_ ?_
                rotate_left
                ·rintro w' ⟨s0, s1, s2, s3, s4, s5, s6, s7, s8, s9, s10, s11⟩
                 go_simp
                 with_reducible rfl
                rotate_left
                ·simp only [Act.put, sA, sB, sC, i64_w, i32_w]
                 rfl
                refine one_ (i := 10) (N := some 88) (ba 12 2047) rfl rfl (one_of HT_.out (by kernel_rfl)) (by decide) (fun K hK => ?_)
                refine goes_ Try.func20 (by kernel_rfl) rfl #[.agg #[.int .i64 ((rd_T51 l0_2 x7_4).f0), .slice A510_1 ((rd_T51 l0_2 x7_4).f1).length c510_1, .slice A510_2 ((rd_T51 l0_2 x7_4).f2).length c510_2], .agg #[.int .i64 ((rd_T51 l1_2 x7_4).f0), .slice A511_1 ((rd_T51 l1_2 x7_4).f1).length c511_1, .slice A511_2 ((rd_T51 l1_2 x7_4).f2).length c511_2]] (by rfl) rfl rfl (by (try simp only [List.map_toArray, List.map_cons, List.map_nil]); first | done | rfl | (simp only [List.length_drop, List.length_take]; rfl)) ?_
                with_reducible refine (mapmakerref14_SameRel.calls k4 ((rd_T51 l0_2 x7_4).f0) _ _ ((rd_T51 l0_2 x7_4).f1) _ _ ((rd_T51 l0_2 x7_4).f2) ((rd_T51 l1_2 x7_4).f0) _ _ ((rd_T51 l1_2 x7_4).f1) _ _ ((rd_T51 l1_2 x7_4).f2) false _ ?side1 ?side2 ?side3 ?side4 ?side5 ?side6 ?side7 ?side8 A51.out).mono ?_
                (case side1 => repeat (first | exact (Kd.C_below HR510_1.out HB.out) | (with_reducible refine cA ?_ _) | (with_reducible refine cN ?_ _) | (with_reducible refine cD ?_)))
                (case side2 => exact HC510_1.out)
                (case side3 => repeat (first | exact (Kd.C_below HR510_2.out HB.out) | (with_reducible refine cA ?_ _) | (with_reducible refine cN ?_ _) | (with_reducible refine cD ?_)))
                (case side4 => exact HC510_2.out)
                (case side5 => repeat (first | exact (Kd.C_below HR511_1.out HB.out) | (with_reducible refine cA ?_ _) | (with_reducible refine cN ?_ _) | (with_reducible refine cD ?_)))
                (case side6 => exact HC511_1.out)
                (case side7 => repeat (first | exact (Kd.C_below HR511_2.out HB.out) | (with_reducible refine cA ?_ _) | (with_reducible refine cN ?_ _) | (with_reducible refine cD ?_)))
                (case side8 => exact HC511_2.out)
                rintro e w60 ⟨rfl, hb⟩
                refine ⟨_, rfl, ?_⟩
                replace BK502 := aM (kB (kl BK502) hb)
                replace BK503 := aM (kB (kl BK503) hb)
                replace HB := aM (bS (bl) hb)
                (try clear hb)
                (try clear hb2)
                (try clear hk)
                (try clear hi)
                refine hK.out _ _ ⟨(kC BK502.out 0).trans rfl, (kC BK502.out 1).trans rfl, (kC BK502.out 2).trans rfl, (kC BK503.out 0).trans rfl, (kC BK503.out 1).trans rfl, (kC BK503.out 2).trans rfl, ((HB.out.cell (World.block_lt_of_cell? w _ hw510_0)).trans hw510_0), ((HB.out.cell (World.block_lt_of_cell? w _ hw510_1)).trans hw510_1), ((HB.out.cell (World.block_lt_of_cell? w _ hw510_2)).trans hw510_2), ((HB.out.cell (World.block_lt_of_cell? w _ hw511_0)).trans hw511_0), ((HB.out.cell (World.block_lt_of_cell? w _ hw511_1)).trans hw511_1), ((HB.out.cell (World.block_lt_of_cell? w _ hw511_2)).trans hw511_2)⟩ (fun hHeld => ?_)
                clear hK K
                refine norm_ (a' := ?_) ?_ ?_
                rotate_left
                ·show Act.put _ (some 88) _ = _
                 simp only [Act.put, sA, sB, sC, i64_w, i32_w]
                 rfl
                refine pure_ (i := 11) (N := some 89) (v := ?_) (a' := ?_) (ba 12 4095) rfl rfl (any_of HT_.out (by kernel_rfl)) (fun _ _ _ h => h) (Or.inl ⟨by rfl, ?_⟩) ?_ ?_
                rotate_left
                ·intro w'
                 go_simp
                 with_reducible rfl
                rotate_left
                ·simp only [Act.put, sA, sB, sC, i64_w, i32_w]
                 rfl
                refine done_ (done_of HT_.out (by kernel_rfl)) ?_
                try go_wp2
                go_ret
                exact ⟨by first | rfl | (simp [errW_none, errW_some] <;> rfl) | (simp [*, errW_none, errW_some] <;> rfl), bl⟩
              ·rw [if_neg c50] at H
               exact absurd H (by simp)
             ·rw [if_neg c49] at H
              exact absurd H (by simp)
            ·rw [if_neg c48] at H
             have c48b0 : decide (x7_4 < (l0_2.length : Int)) = false := decide_eq_false c48
             clear c48
             obtain rfl := Option.some.inj H
             have hnb61 := NB502_503.out
             have hnc61 := NB503_502.out
             have hcz62_0 : wr.cell? ⟨gb502, 0, none⟩ = some (.slice A0_0 l0_0.length c0_0) := (kC BK502.out 0).trans rfl
             have hcz62_1 : wr.cell? ⟨gb502, 1, none⟩ = some (.slice A0_1 l0_1.length c0_1) := (kC BK502.out 1).trans rfl
             have hcz62_2 : wr.cell? ⟨gb502, 2, none⟩ = some (.slice A0_2 l0_2.length c0_2) := (kC BK502.out 2).trans rfl
             have hfz62_0 := kF BK502.out 0
             have hfz62_1 := kF BK502.out 1
             have hfz62_2 := kF BK502.out 2
             go_wp2
             go_ret
             exact ⟨by first | rfl | (simp [errW_none, errW_some] <;> rfl) | (simp [*, errW_none, errW_some] <;> rfl), bl⟩
end Go.Proofs.Ytgenbepicnbecaa.PAll
