-- out of a driver of this session's prover over the kit's print: Lean checks it
import Derived.Test.YtefambkodalomaaPAllx0
import Derived.Test.YtefambkodalomaaPAllx24
import Derived.Test.YtefambkodalomaaPAllx25
namespace Go.Proofs.Ytefambkodalomaa.PAll
open Go.Proofs.YtefambkodalomaaG Go.Shelf Go.Lib
open Go.RowKit Go.Proofs.YtefambkodalomaaW.PrintWords Go.Proofs.YtefambkodalomaaW.PrintLast Go.Proofs.YtefambkodalomaaW.PrintMore
attribute [local go_sem] max2_int min2_int max_two min_two max_three min_three max_four min_four   -- for this text's walks alone
set_option linter.unusedVariables false
set_option linter.unusedSimpArgs false
mutual
def mapmakerref14_Same.j0 : Nat → Bool → List (S53) → List (S56) → List (S59) → List (S53) → List (S56) → List (S59) → Option (Bool)
 | 0, _, _, _, _, _, _, _ => none
 | k + 1, x32, x787000, x787001, x787002, x788000, x788001, x788002 => if x32 = true then (some false) else (mapmakerref14_Same.l0 k 0 x787000 x787001 x787002 x788000 x788001 x788002)
def mapmakerref14_Same.l0 : Nat → Int → List (S53) → List (S56) → List (S59) → List (S53) → List (S56) → List (S59) → Option (Bool)
 | 0, _, _, _, _, _, _, _ => none
 | k + 1, x5, x787000, x787001, x787002, x788000, x788001, x788002 => if x5 < (x787000.length : Int) then (if 0 ≤ x5 then (if x5 < (x788000.length : Int) then ((mapmakerref14_SameNode.f k ((rd_T53 x787000 x5).f0) ((rd_T53 x787000 x5).f1.f0) ((rd_T53 x787000 x5).f1.f1) ((rd_T53 x787000 x5).f2) ((rd_T53 x788000 x5).f0) ((rd_T53 x788000 x5).f1.f0) ((rd_T53 x788000 x5).f1.f1) ((rd_T53 x788000 x5).f2)).bind fun t790 => (if t790 = true then (mapmakerref14_Same.l0 k (wrap64 (x5 + 1)) x787000 x787001 x787002 x788000 x788001 x788002) else (some false))) else (none)) else (none)) else (mapmakerref14_Same.l1 k 0 x787000 x787001 x787002 x788000 x788001 x788002)
def mapmakerref14_Same.l1 : Nat → Int → List (S53) → List (S56) → List (S59) → List (S53) → List (S56) → List (S59) → Option (Bool)
 | 0, _, _, _, _, _, _, _ => none
 | k + 1, x6, x787000, x787001, x787002, x788000, x788001, x788002 => if x6 < (x787001.length : Int) then (if 0 ≤ x6 then (if x6 < (x788001.length : Int) then ((mapmakerref14_SameWay.f k ((rd_T56 x787001 x6).f0) ((rd_T56 x787001 x6).f1) ((rd_T56 x787001 x6).f2) ((rd_T56 x788001 x6).f0) ((rd_T56 x788001 x6).f1) ((rd_T56 x788001 x6).f2)).bind fun t793 => (if t793 = true then (mapmakerref14_Same.l1 k (wrap64 (x6 + 1)) x787000 x787001 x787002 x788000 x788001 x788002) else (some false))) else (none)) else (none)) else (mapmakerref14_Same.l2 k 0 x787000 x787001 x787002 x788000 x788001 x788002)
def mapmakerref14_Same.l2 : Nat → Int → List (S53) → List (S56) → List (S59) → List (S53) → List (S56) → List (S59) → Option (Bool)
 | 0, _, _, _, _, _, _, _ => none
 | k + 1, x7, x787000, x787001, x787002, x788000, x788001, x788002 => if x7 < (x787002.length : Int) then (if 0 ≤ x7 then (if x7 < (x788002.length : Int) then ((mapmakerref14_SameRel.f k ((rd_T59 x787002 x7).f0) ((rd_T59 x787002 x7).f1) ((rd_T59 x787002 x7).f2) ((rd_T59 x788002 x7).f0) ((rd_T59 x788002 x7).f1) ((rd_T59 x788002 x7).f2)).bind fun t796 => (if t796 = true then (mapmakerref14_Same.l2 k (wrap64 (x7 + 1)) x787000 x787001 x787002 x788000 x788001 x788002) else (some false))) else (none)) else (none)) else (some true)
end
def mapmakerref14_Same.f (k : Nat) (l0_0 : List (S53)) (l0_1 : List (S56)) (l0_2 : List (S59)) (l1_0 : List (S53)) (l1_1 : List (S56)) (l1_2 : List (S59)) : Option (Bool) := if (l0_0.length : Int) = (l1_0.length : Int) then (if (l0_1.length : Int) = (l1_1.length : Int) then (mapmakerref14_Same.j0 k ((l0_2.length : Int) != (l1_2.length : Int)) l0_0 l0_1 l0_2 l1_0 l1_1 l1_2) else (mapmakerref14_Same.j0 k true l0_0 l0_1 l0_2 l1_0 l1_1 l1_2)) else (mapmakerref14_Same.j0 k true l0_0 l0_1 l0_2 l1_0 l1_1 l1_2)
theorem mapmakerref14_Same.mono_l : ∀ k, (∀ y0 y1 y2 y3 y4 y5 y6, LeO (mapmakerref14_Same.j0 k y0 y1 y2 y3 y4 y5 y6) (mapmakerref14_Same.j0 (k + 1) y0 y1 y2 y3 y4 y5 y6)) ∧ (∀ y0 y1 y2 y3 y4 y5 y6, LeO (mapmakerref14_Same.l0 k y0 y1 y2 y3 y4 y5 y6) (mapmakerref14_Same.l0 (k + 1) y0 y1 y2 y3 y4 y5 y6)) ∧ (∀ y0 y1 y2 y3 y4 y5 y6, LeO (mapmakerref14_Same.l1 k y0 y1 y2 y3 y4 y5 y6) (mapmakerref14_Same.l1 (k + 1) y0 y1 y2 y3 y4 y5 y6)) ∧ (∀ y0 y1 y2 y3 y4 y5 y6, LeO (mapmakerref14_Same.l2 k y0 y1 y2 y3 y4 y5 y6) (mapmakerref14_Same.l2 (k + 1) y0 y1 y2 y3 y4 y5 y6))
 | 0 => ⟨fun _ _ _ _ _ _ _ r h => by simp [mapmakerref14_Same.j0] at h, fun _ _ _ _ _ _ _ r h => by simp [mapmakerref14_Same.l0] at h, fun _ _ _ _ _ _ _ r h => by simp [mapmakerref14_Same.l1] at h, fun _ _ _ _ _ _ _ r h => by simp [mapmakerref14_Same.l2] at h⟩
 | k + 1 => by
  obtain ⟨ih0, ih1, ih2, ih3⟩ := mapmakerref14_Same.mono_l k
  refine ⟨?_, ?_, ?_, ?_⟩
  ·intro y0 y1 y2 y3 y4 y5 y6
   unfold mapmakerref14_Same.j0
   repeat' first
   | (with_reducible exact ih0 _ _ _ _ _ _ _)
   | (with_reducible exact ih1 _ _ _ _ _ _ _)
   | (with_reducible exact ih2 _ _ _ _ _ _ _)
   | (with_reducible exact ih3 _ _ _ _ _ _ _)
   | (with_reducible exact mapmakerref14_SameNode.mono _ _ _ _ _ _ _ _ _)
   | (with_reducible exact mapmakerref14_SameRel.mono _ _ _ _ _ _ _)
   | (with_reducible exact mapmakerref14_SameWay.mono _ _ _ _ _ _ _)
   | (with_reducible exact LeO.refl _)
   | (with_reducible exact LeO.none _)
   | (with_reducible refine LeO.ite ?_ ?_)
   | (with_reducible refine LeO.eB ?_ (fun _ => ?_))
   | (with_reducible refine LeO.bind ?_ (fun _ => ?_))
   | exact ih0 _ _ _ _ _ _ _
   | exact ih1 _ _ _ _ _ _ _
   | exact ih2 _ _ _ _ _ _ _
   | exact ih3 _ _ _ _ _ _ _
   | exact mapmakerref14_SameNode.mono _ _ _ _ _ _ _ _ _
   | exact mapmakerref14_SameRel.mono _ _ _ _ _ _ _
   | exact mapmakerref14_SameWay.mono _ _ _ _ _ _ _
   | exact LeO.none _
   | refine LeO.ite ?_ ?_
   | refine LeO.bind ?_ (fun _ => ?_)
  ·intro y0 y1 y2 y3 y4 y5 y6
   unfold mapmakerref14_Same.l0
   repeat' first
   | (with_reducible exact ih0 _ _ _ _ _ _ _)
   | (with_reducible exact ih1 _ _ _ _ _ _ _)
   | (with_reducible exact ih2 _ _ _ _ _ _ _)
   | (with_reducible exact ih3 _ _ _ _ _ _ _)
   | (with_reducible exact mapmakerref14_SameNode.mono _ _ _ _ _ _ _ _ _)
   | (with_reducible exact mapmakerref14_SameRel.mono _ _ _ _ _ _ _)
   | (with_reducible exact mapmakerref14_SameWay.mono _ _ _ _ _ _ _)
   | (with_reducible exact LeO.refl _)
   | (with_reducible exact LeO.none _)
   | (with_reducible refine LeO.ite ?_ ?_)
   | (with_reducible refine LeO.eB ?_ (fun _ => ?_))
   | (with_reducible refine LeO.bind ?_ (fun _ => ?_))
   | exact ih0 _ _ _ _ _ _ _
   | exact ih1 _ _ _ _ _ _ _
   | exact ih2 _ _ _ _ _ _ _
   | exact ih3 _ _ _ _ _ _ _
   | exact mapmakerref14_SameNode.mono _ _ _ _ _ _ _ _ _
   | exact mapmakerref14_SameRel.mono _ _ _ _ _ _ _
   | exact mapmakerref14_SameWay.mono _ _ _ _ _ _ _
   | exact LeO.none _
   | refine LeO.ite ?_ ?_
   | refine LeO.bind ?_ (fun _ => ?_)
  ·intro y0 y1 y2 y3 y4 y5 y6
   unfold mapmakerref14_Same.l1
   repeat' first
   | (with_reducible exact ih0 _ _ _ _ _ _ _)
   | (with_reducible exact ih1 _ _ _ _ _ _ _)
   | (with_reducible exact ih2 _ _ _ _ _ _ _)
   | (with_reducible exact ih3 _ _ _ _ _ _ _)
   | (with_reducible exact mapmakerref14_SameNode.mono _ _ _ _ _ _ _ _ _)
   | (with_reducible exact mapmakerref14_SameRel.mono _ _ _ _ _ _ _)
   | (with_reducible exact mapmakerref14_SameWay.mono _ _ _ _ _ _ _)
   | (with_reducible exact LeO.refl _)
   | (with_reducible exact LeO.none _)
   | (with_reducible refine LeO.ite ?_ ?_)
   | (with_reducible refine LeO.eB ?_ (fun _ => ?_))
   | (with_reducible refine LeO.bind ?_ (fun _ => ?_))
   | exact ih0 _ _ _ _ _ _ _
   | exact ih1 _ _ _ _ _ _ _
   | exact ih2 _ _ _ _ _ _ _
   | exact ih3 _ _ _ _ _ _ _
   | exact mapmakerref14_SameNode.mono _ _ _ _ _ _ _ _ _
   | exact mapmakerref14_SameRel.mono _ _ _ _ _ _ _
   | exact mapmakerref14_SameWay.mono _ _ _ _ _ _ _
   | exact LeO.none _
   | refine LeO.ite ?_ ?_
   | refine LeO.bind ?_ (fun _ => ?_)
  ·intro y0 y1 y2 y3 y4 y5 y6
   unfold mapmakerref14_Same.l2
   repeat' first
   | (with_reducible exact ih0 _ _ _ _ _ _ _)
   | (with_reducible exact ih1 _ _ _ _ _ _ _)
   | (with_reducible exact ih2 _ _ _ _ _ _ _)
   | (with_reducible exact ih3 _ _ _ _ _ _ _)
   | (with_reducible exact mapmakerref14_SameNode.mono _ _ _ _ _ _ _ _ _)
   | (with_reducible exact mapmakerref14_SameRel.mono _ _ _ _ _ _ _)
   | (with_reducible exact mapmakerref14_SameWay.mono _ _ _ _ _ _ _)
   | (with_reducible exact LeO.refl _)
   | (with_reducible exact LeO.none _)
   | (with_reducible refine LeO.ite ?_ ?_)
   | (with_reducible refine LeO.eB ?_ (fun _ => ?_))
   | (with_reducible refine LeO.bind ?_ (fun _ => ?_))
   | exact ih0 _ _ _ _ _ _ _
   | exact ih1 _ _ _ _ _ _ _
   | exact ih2 _ _ _ _ _ _ _
   | exact ih3 _ _ _ _ _ _ _
   | exact mapmakerref14_SameNode.mono _ _ _ _ _ _ _ _ _
   | exact mapmakerref14_SameRel.mono _ _ _ _ _ _ _
   | exact mapmakerref14_SameWay.mono _ _ _ _ _ _ _
   | exact LeO.none _
   | refine LeO.ite ?_ ?_
   | refine LeO.bind ?_ (fun _ => ?_)
theorem mapmakerref14_Same.mono : ∀ a0 a1 a2 a3 a4 a5 k, LeO (mapmakerref14_Same.f k a0 a1 a2 a3 a4 a5) (mapmakerref14_Same.f (k + 1) a0 a1 a2 a3 a4 a5) := by
 intro a0 a1 a2 a3 a4 a5 k; obtain ⟨ih0, ih1, ih2, ih3⟩ := mapmakerref14_Same.mono_l k; unfold mapmakerref14_Same.f
 repeat' first
   | (with_reducible exact ih0 _ _ _ _ _ _ _)
   | (with_reducible exact ih1 _ _ _ _ _ _ _)
   | (with_reducible exact ih2 _ _ _ _ _ _ _)
   | (with_reducible exact ih3 _ _ _ _ _ _ _)
   | (with_reducible exact mapmakerref14_SameNode.mono _ _ _ _ _ _ _ _ _)
   | (with_reducible exact mapmakerref14_SameRel.mono _ _ _ _ _ _ _)
   | (with_reducible exact mapmakerref14_SameWay.mono _ _ _ _ _ _ _)
   | (with_reducible exact LeO.refl _)
   | (with_reducible exact LeO.none _)
   | (with_reducible refine LeO.ite ?_ ?_)
   | (with_reducible refine LeO.eB ?_ (fun _ => ?_))
   | (with_reducible refine LeO.bind ?_ (fun _ => ?_))
   | exact ih0 _ _ _ _ _ _ _
   | exact ih1 _ _ _ _ _ _ _
   | exact ih2 _ _ _ _ _ _ _
   | exact ih3 _ _ _ _ _ _ _
   | exact mapmakerref14_SameNode.mono _ _ _ _ _ _ _ _ _
   | exact mapmakerref14_SameRel.mono _ _ _ _ _ _ _
   | exact mapmakerref14_SameWay.mono _ _ _ _ _ _ _
   | exact LeO.none _
   | refine LeO.ite ?_ ?_
   | refine LeO.bind ?_ (fun _ => ?_)
def mapmakerref14_Same.T6 : Bool × List (List Nat × List Nat) := (true, [([], []), ([0], [0]), ([], []), ([1, 2], [1, 2]), ([3], [3]), ([], []), ([5], [5]), ([], []), ([6, 7], [6, 7]), ([8], [8]), ([4, 9], [4, 9]), ([10], [10])])
def mapmakerref14_Same.B6 : List Nat := [0, 1, 0, 7, 15, 0, 32, 0, 224, 480, 1023, 2047]
theorem mapmakerref14_Same.tab6 : rtab .any (opsOf Try.f16 6) = mapmakerref14_Same.T6 := by kernel_rfl
theorem mapmakerref14_Same.bits6 : waitsOk mapmakerref14_Same.T6.2 mapmakerref14_Same.B6 = true := by kernel_rfl
def mapmakerref14_Same.T11 : Bool × List (List Nat × List Nat) := (true, [([], []), ([0], [0]), ([], []), ([1, 2], [1, 2]), ([3], [3]), ([], []), ([5], [5]), ([], []), ([6, 7], [6, 7]), ([8], [8]), ([4, 9], [4, 9]), ([10], [10])])
def mapmakerref14_Same.B11 : List Nat := [0, 1, 0, 7, 15, 0, 32, 0, 224, 480, 1023, 2047]
theorem mapmakerref14_Same.tab11 : rtab .any (opsOf Try.f16 11) = mapmakerref14_Same.T11 := by kernel_rfl
theorem mapmakerref14_Same.bits11 : waitsOk mapmakerref14_Same.T11.2 mapmakerref14_Same.B11 = true := by kernel_rfl
def mapmakerref14_Same.T16 : Bool × List (List Nat × List Nat) := (true, [([], []), ([0], [0]), ([], []), ([1, 2], [1, 2]), ([3], [3]), ([], []), ([5], [5]), ([], []), ([6, 7], [6, 7]), ([8], [8]), ([4, 9], [4, 9]), ([10], [10])])
def mapmakerref14_Same.B16 : List Nat := [0, 1, 0, 7, 15, 0, 32, 0, 224, 480, 1023, 2047]
theorem mapmakerref14_Same.tab16 : rtab .any (opsOf Try.f16 16) = mapmakerref14_Same.T16 := by kernel_rfl
theorem mapmakerref14_Same.bits16 : waitsOk mapmakerref14_Same.T16.2 mapmakerref14_Same.B16 = true := by kernel_rfl
set_option maxHeartbeats 8000000 in
set_option maxRecDepth 100000 in
theorem mapmakerref14_Same.calls (k : Nat) (A0_0 : Option Addr) (c0_0 : Nat) (l0_0 : List (S53)) (A0_1 : Option Addr) (c0_1 : Nat) (l0_1 : List (S56)) (A0_2 : Option Addr) (c0_2 : Nat) (l0_2 : List (S59)) (A1_0 : Option Addr) (c1_0 : Nat) (l1_0 : List (S53)) (A1_1 : Option Addr) (c1_1 : Nat) (l1_1 : List (S56)) (A1_2 : Option Addr) (c1_2 : Nat) (l1_2 : List (S59)) (r : Bool) (w : World) (hr0_0 : Kd.C k53 w A0_0 l0_0.length l0_0) (hc0_0 : l0_0.length ≤ c0_0) (hr0_1 : Kd.C k56 w A0_1 l0_1.length l0_1) (hc0_1 : l0_1.length ≤ c0_1) (hr0_2 : Kd.C k59 w A0_2 l0_2.length l0_2) (hc0_2 : l0_2.length ≤ c0_2) (hr1_0 : Kd.C k53 w A1_0 l1_0.length l1_0) (hc1_0 : l1_0.length ≤ c1_0) (hr1_1 : Kd.C k56 w A1_1 l1_1.length l1_1) (hc1_1 : l1_1.length ≤ c1_1) (hr1_2 : Kd.C k59 w A1_2 l1_2.length l1_2) (hc1_2 : l1_2.length ≤ c1_2) (h : mapmakerref14_Same.f k l0_0 l0_1 l0_2 l1_0 l1_1 l1_2 = some r) :
  Calls Try.prog 16 #[.agg #[.slice A0_0 l0_0.length c0_0, .slice A0_1 l0_1.length c0_1, .slice A0_2 l0_2.length c0_2], .agg #[.slice A1_0 l1_0.length c1_0, .slice A1_1 l1_1.length c1_1, .slice A1_2 l1_2.length c1_2]] w fun e w' => e = .returned (.bool r) ∧ Below w.heap.size w w' := by
 have hu26 := Try.underlying26; have hu53 := Try.underlying53; have hu56 := Try.underlying56; have hu59 := Try.underlying59; have HR0_0 := aM hr0_0; have HC0_0 := aM hc0_0; clear hr0_0 hc0_0; have HR0_1 := aM hr0_1; have HC0_1 := aM hc0_1; clear hr0_1 hc0_1; have HR0_2 := aM hr0_2; have HC0_2 := aM hc0_2; clear hr0_2 hc0_2; have HR1_0 := aM hr1_0; have HC1_0 := aM hc1_0; clear hr1_0 hc1_0; have HR1_1 := aM hr1_1; have HC1_1 := aM hc1_1; clear hr1_1 hc1_1; have HR1_2 := aM hr1_2; have HC1_2 := aM hc1_2; clear hr1_2 hc1_2; have HB := aM (Below.refl w.heap.size w); have H : (if (l0_0.length : Int) = (l1_0.length : Int) then (if (l0_1.length : Int) = (l1_1.length : Int) then (mapmakerref14_Same.j0 k ((l0_2.length : Int) != (l1_2.length : Int)) l0_0 l0_1 l0_2 l1_0 l1_1 l1_2) else (mapmakerref14_Same.j0 k true l0_0 l0_1 l0_2 l1_0 l1_1 l1_2)) else (mapmakerref14_Same.j0 k true l0_0 l0_1 l0_2 l1_0 l1_1 l1_2)) = some r := h; clear h; have HC3 := aM H; clear H; go_enter Try.func16, Try.ntmps16
 go_upto_region 1 with (first | ((with_reducible refine gate_dst (N := 2) rfl ?_); (try (refine gate_guard (by rfl) ?_; dsimp only)); refine bx (N := 2) (cs := #[.slice A0_0 l0_0.length c0_0, .slice A0_1 l0_1.length c0_1, .slice A0_2 l0_2.length c0_2]) (t := 26) ?_; intro gb786 hg w4 hbox hb; have BK786 := aM (hbox); have GE786 := aM (gw (w := w) hg); replace HB := aM (bS (bl) hb); clear hb hbox hg) | ((with_reducible refine gate_dst (N := 3) rfl ?_); (try (refine gate_guard (by rfl) ?_; dsimp only)); refine bx (N := 3) (cs := #[.slice A1_0 l1_0.length c1_0, .slice A1_1 l1_1.length c1_1, .slice A1_2 l1_2.length c1_2]) (t := 26) ?_; intro gb787 hg w5 hbox hb; have BK787 := aM (hbox); have GE787 := aM (gw (w := w) hg); obtain ⟨NB786_787, NB787_786⟩ := n2 BK786 hg; replace BK786 := aM (kB (kl BK786) hb); replace HB := aM (bS (bl) hb); clear hb hbox hg))
 (try simp only [Act.put, sA, sB, sC])
 go_cut [32] (fun v32 wc => ∃ (kq : Nat) (x32_2 : Bool), v32 = .bool x32_2 ∧ Aside0 (mapmakerref14_Same.j0 kq x32_2 l0_0 l0_1 l0_2 l1_0 l1_1 l1_2 = some r) ∧ Aside0 (kq ≤ k) ∧ Aside0 (wc.heap[gb786]? = some (.cells #[(.slice A0_0 l0_0.length c0_0), (.slice A0_1 l0_1.length c0_1), (.slice A0_2 l0_2.length c0_2)] 26 (0, 0))) ∧ Aside0 (wc.heap[gb787]? = some (.cells #[(.slice A1_0 l1_0.length c1_0), (.slice A1_1 l1_1.length c1_1), (.slice A1_2 l1_2.length c1_2)] 26 (0, 0))) ∧ Aside0 (Below w.heap.size w wc))
 case first =>
  have H := HC3.out; clear HC3
  by_cases c6 : (l0_0.length : Int) = (l1_0.length : Int)
  ·rw [if_pos c6] at H; have c6b0 : ((l0_0.length : Int) == (l1_0.length : Int)) = true := beq_iff_eq.mpr c6; have c6b1 : ((l0_0.length : Int) != (l1_0.length : Int)) = false := bne_eq_false_iff_eq.mpr c6; have c6b2 : (l0_0.length == l1_0.length) = true := by first | simpa using c6 | (simp at c6 ⊢; omega)
   clear c6
   (first | rw [c6b0] | (simp only [i64_w, i32_w]; rw [c6b0]) | skip)
   by_cases c7 : (l0_1.length : Int) = (l1_1.length : Int)
   ·rw [if_pos c7] at H; have c7b0 : ((l0_1.length : Int) == (l1_1.length : Int)) = true := beq_iff_eq.mpr c7; have c7b1 : ((l0_1.length : Int) != (l1_1.length : Int)) = false := bne_eq_false_iff_eq.mpr c7; have c7b2 : (l0_1.length == l1_1.length) = true := by first | simpa using c7 | (simp at c7 ⊢; omega)
    clear c7; have H' := aM H; clear H; have hn8 := nn NB786_787; have hz9 := bc3 BK786; have hz10 := bc3 BK787
    go_wp2
    go_meet
    case rel => exact ⟨_, (((l0_2.length : Int) != (l1_2.length : Int))), (by first | rfl | (simp; done) | (simp [*]; done)), H', ⟨by first | omega | exact Nat.le_refl _⟩, ⟨kl BK786⟩, ⟨kl BK787⟩, ⟨bl⟩⟩
   ·rw [if_neg c7] at H; have c7b0 : ((l0_1.length : Int) == (l1_1.length : Int)) = false := beq_eq_false_iff_ne.mpr c7; have c7b1 : ((l0_1.length : Int) != (l1_1.length : Int)) = true := bne_iff_ne.mpr c7; have c7b2 : (l0_1.length == l1_1.length) = false := by first | simpa using c7 | (simp at c7 ⊢; omega)
    have H' := aM H; clear H; have hn11 := nn NB786_787; have hz12 := bc3 BK786; have hz13 := bc3 BK787
    go_wp2
    go_meet
    case rel => exact ⟨_, (true), (by first | rfl | (simp; done) | (simp [*]; done)), H', ⟨by first | omega | exact Nat.le_refl _⟩, ⟨kl BK786⟩, ⟨kl BK787⟩, ⟨bl⟩⟩
  ·rw [if_neg c6] at H; have c6b0 : ((l0_0.length : Int) == (l1_0.length : Int)) = false := beq_eq_false_iff_ne.mpr c6; have c6b1 : ((l0_0.length : Int) != (l1_0.length : Int)) = true := bne_iff_ne.mpr c6; have c6b2 : (l0_0.length == l1_0.length) = false := by first | simpa using c6 | (simp at c6 ⊢; omega)
   (first | rw [c6b0] | (simp only [i64_w, i32_w]; rw [c6b0]) | skip)
   have H' := aM H; clear H; have hn14 := nn NB786_787; have hz15 := bc3 BK786; have hz16 := bc3 BK787
   go_wp2
   go_meet
   case rel => exact ⟨_, (true), (by first | rfl | (simp; done) | (simp [*]; done)), H', ⟨by first | omega | exact Nat.le_refl _⟩, ⟨kl BK786⟩, ⟨kl BK787⟩, ⟨bl⟩⟩
 case rest =>
  clear HC3; (try clear c6); (try clear c6b0); (try clear c6b1); (try clear c6b2); (try clear c7); (try clear c7b0); (try clear c7b1); (try clear c7b2); (try clear hz10); (try clear hz12); (try clear hz13); (try clear hz15); (try clear hz16); (try clear hz9); obtain ⟨kq, x32_2, rfl, HA, HJ2, BK786, BK787, HB⟩ := hcut
  cases kq with
  | zero => exact absurd HA.out (by simp [mapmakerref14_Same.j0])
  | succ kj2 =>
   have H := HA.out; clear HA; simp only [mapmakerref14_Same.j0] at H
   by_cases c17 : x32_2 = true
   ·subst c17; have H1 : (some false) = some r := by rw [if_pos rfl] at H; exact H
    clear H; have H := H1; clear H1; obtain rfl := Option.some.inj H
    go_wp2
    go_ret; exact ⟨by first | rfl | (simp [errW_none, errW_some] <;> rfl) | (simp [*, errW_none, errW_some] <;> rfl), bl⟩
   ·replace c17 := Bool.eq_false_iff.mpr c17; subst c17; have H1 : (mapmakerref14_Same.l0 kj2 0 l0_0 l0_1 l0_2 l1_0 l1_1 l1_2) = some r := by rw [if_neg (show ¬ (false = true) by decide)] at H; exact H
    clear H; have H := H1; clear H1; have H' := aM H; clear H
    go_wp2
    go_loopg [5] kj2 (fun kq v5 w' => ∃ (x5_2 : Int), v5 = .int .i64 x5_2 ∧ Aside0 (mapmakerref14_Same.l0 kq x5_2 l0_0 l0_1 l0_2 l1_0 l1_1 l1_2 = some r) ∧ Aside0 (kq ≤ kj2) ∧ Aside0 (w'.heap[gb786]? = some (.cells #[(.slice A0_0 l0_0.length c0_0), (.slice A0_1 l0_1.length c0_1), (.slice A0_2 l0_2.length c0_2)] 26 (0, 0))) ∧ Aside0 (w'.heap[gb787]? = some (.cells #[(.slice A1_0 l1_0.length c1_0), (.slice A1_1 l1_1.length c1_1), (.slice A1_2 l1_2.length c1_2)] 26 (0, 0))) ∧ Aside0 (Below w.heap.size w w'))
    case atStart => exact ⟨(0), (by first | rfl | (simp; done) | (simp [*]; done)), H', ⟨Nat.le_refl _⟩, ⟨kl BK786⟩, ⟨kl BK787⟩, ⟨bl⟩⟩
    case round =>
     clear H'; (try clear c6); (try clear c6b0); (try clear c6b1); (try clear c6b2); (try clear c7); (try clear c7b0); (try clear c7b1); (try clear c7b2); (try clear c17); (try clear hz10); (try clear hz12); (try clear hz13); (try clear hz15); (try clear hz16); (try clear hz9); obtain ⟨x5_2, rfl, HA, HK2, BK786, BK787, HB⟩ := hrel
     cases gk with
     | zero => exact absurd HA.out (by simp [mapmakerref14_Same.l0])
     | succ k2 =>
      have H := HA.out; clear HA; simp only [mapmakerref14_Same.l0] at H
      by_cases c18 : x5_2 < (l0_0.length : Int)
      ·rw [if_pos c18] at H; have c18b0 : decide (x5_2 < (l0_0.length : Int)) = true := decide_eq_true c18; clear c18
       by_cases c19 : 0 ≤ x5_2
       ·rw [if_pos c19] at H; have c19b0 : decide (0 ≤ x5_2) = true := decide_eq_true c19; clear c19
        by_cases c20 : x5_2 < (l1_0.length : Int)
        ·rw [if_pos c20] at H; have c20b0 : decide (x5_2 < (l1_0.length : Int)) = true := decide_eq_true c20; clear c20; replace H := Option.bind_eq_some_iff.mp H; obtain ⟨t790, A210, H⟩ := H; (try dsimp only at H); have A21 := aM A210; clear A210; have HH_ := aM H; clear H; have hn23 := nn NB786_787; have hz24 := bc3 BK786
         try go_wp2
         replace BK786 := aM (kD BK786.out); replace BK787 := aM (kD BK787.out); replace HB := aM (bD HB.out); have p788 : 0 ≤ (x5_2 : Int) := oT; have q788 : x5_2 < (l0_0.length : Int) := oT; obtain ⟨ad788, A788_3, c788_3, e788, hx788_0, hx788_1, hx788_2, hx788_3, hl788_3, hi788_3⟩ := at_T53 HR0_0.out x5_2 p788 q788; have hw788_3 := hx788_3; have hw788_2 := hx788_2; have hw788_1 := hx788_1; have hw788_0 := hx788_0; cases e788
         replace hx788_0 := hs HB.out hx788_0; replace hx788_1 := hs HB.out hx788_1; replace hx788_2 := hs HB.out hx788_2; replace hx788_3 := hs HB.out hx788_3; have HR788_3 := aM hi788_3; have HC788_3 := aM hl788_3; clear hi788_3 hl788_3; replace p788 := eq_true p788; replace q788 := eq_true q788; have p789 : 0 ≤ (x5_2 : Int) := oT; have q789 : x5_2 < (l1_0.length : Int) := oT; obtain ⟨ad789, A789_3, c789_3, e789, hx789_0, hx789_1, hx789_2, hx789_3, hl789_3, hi789_3⟩ := at_T53 HR1_0.out x5_2 p789 q789; have hw789_3 := hx789_3; have hw789_2 := hx789_2; have hw789_1 := hx789_1; have hw789_0 := hx789_0; cases e789
         replace hx789_0 := hs HB.out hx789_0; replace hx789_1 := hs HB.out hx789_1; replace hx789_2 := hs HB.out hx789_2; replace hx789_3 := hs HB.out hx789_3; have HR789_3 := aM hi789_3; have HC789_3 := aM hl789_3; clear hi789_3 hl789_3; replace p789 := eq_true p789; replace q789 := eq_true q789; refine start_ (n := 12) (S := fun w' => w'.cell? ⟨gb786, 0, none⟩ = some (.slice (some ad788) l0_0.length c0_0) ∧ w'.cell? ⟨gb786, 1, none⟩ = some (.slice A0_1 l0_1.length c0_1) ∧ w'.cell? ⟨gb786, 2, none⟩ = some (.slice A0_2 l0_2.length c0_2) ∧ w'.cell? ⟨gb787, 0, none⟩ = some (.slice (some ad789) l1_0.length c1_0) ∧ w'.cell? ⟨gb787, 1, none⟩ = some (.slice A1_1 l1_1.length c1_1) ∧ w'.cell? ⟨gb787, 2, none⟩ = some (.slice A1_2 l1_2.length c1_2) ∧ w'.cell? (ad788.add ((x5_2).toNat * 4)) = some (.int .i64 ((rd_T53 l0_0 x5_2).f0)) ∧ w'.cell? ⟨(ad788.add ((x5_2).toNat * 4)).block, (ad788.add ((x5_2).toNat * 4)).off + 1, none⟩ = some (.int .i64 ((rd_T53 l0_0 x5_2).f1.f0)) ∧ w'.cell? ⟨(ad788.add ((x5_2).toNat * 4)).block, (ad788.add ((x5_2).toNat * 4)).off + 2, none⟩ = some (.int .i64 ((rd_T53 l0_0 x5_2).f1.f1)) ∧ w'.cell? ⟨(ad788.add ((x5_2).toNat * 4)).block, (ad788.add ((x5_2).toNat * 4)).off + 3, none⟩ = some (.slice A788_3 ((rd_T53 l0_0 x5_2).f2).length c788_3) ∧ w'.cell? (ad789.add ((x5_2).toNat * 4)) = some (.int .i64 ((rd_T53 l1_0 x5_2).f0)) ∧ w'.cell? ⟨(ad789.add ((x5_2).toNat * 4)).block, (ad789.add ((x5_2).toNat * 4)).off + 1, none⟩ = some (.int .i64 ((rd_T53 l1_0 x5_2).f1.f0)) ∧ w'.cell? ⟨(ad789.add ((x5_2).toNat * 4)).block, (ad789.add ((x5_2).toNat * 4)).off + 2, none⟩ = some (.int .i64 ((rd_T53 l1_0 x5_2).f1.f1)) ∧ w'.cell? ⟨(ad789.add ((x5_2).toNat * 4)).block, (ad789.add ((x5_2).toNat * 4)).off + 3, none⟩ = some (.slice A789_3 ((rd_T53 l1_0 x5_2).f2).length c789_3)) (ds := []) #[false, false, false, false, false, false, false, false, false, false, false, false] (by kernel_rfl) rfl rfl ⟨(kC BK786.out 0).trans rfl, (kC BK786.out 1).trans rfl, (kC BK786.out 2).trans rfl, (kC BK787.out 0).trans rfl, (kC BK787.out 1).trans rfl, (kC BK787.out 2).trans rfl, ((HB.out.cell (World.block_lt_of_cell? w _ hw788_0)).trans hw788_0), ((HB.out.cell (World.block_lt_of_cell? w _ hw788_1)).trans hw788_1), ((HB.out.cell (World.block_lt_of_cell? w _ hw788_2)).trans hw788_2), ((HB.out.cell (World.block_lt_of_cell? w _ hw788_3)).trans hw788_3), ((HB.out.cell (World.block_lt_of_cell? w _ hw789_0)).trans hw789_0), ((HB.out.cell (World.block_lt_of_cell? w _ hw789_1)).trans hw789_1), ((HB.out.cell (World.block_lt_of_cell? w _ hw789_2)).trans hw789_2), ((HB.out.cell (World.block_lt_of_cell? w _ hw789_3)).trans hw789_3)⟩ (fun hHeld => ?_); refine with_tabW mapmakerref14_Same.tab6 mapmakerref14_Same.bits6 (fun HT_ HW_ => ?_); generalize wr.drew = w25 at BK786 BK787 HB HR788_3 HR789_3 hx788_0 hx788_1 hx788_2 hx788_3 hx789_0 hx789_1 hx789_2 hx789_3 hHeld ⊢; refine pu 0 40 (ba 12 1) ?_; refine pu 2 42 (ba 12 5) ?_; refine pu 5 45 (ba 12 37) ?_; refine pu 7 47 (ba 12 165) ?_; refine tk 1 41 (ba 12 167) ?_; refine pu 3 43 (ba 12 175) ?_; refine tk 4 44 (ba 12 191) ?_; refine tk 6 46 (ba 12 255) ?_; refine pu 8 48 (ba 12 511) ?_; refine tk 9 49 (ba 12 1023) ?_; refine one_ (i := 10) (N := some 50) (ba 12 2047) rfl rfl (one_of HT_.out (by kernel_rfl)) (by decide) (fun K hK => ?_); refine goes_ Try.func47 (by kernel_rfl) rfl #[.agg #[.int .i64 ((rd_T53 l0_0 x5_2).f0), .int .i64 ((rd_T53 l0_0 x5_2).f1.f0), .int .i64 ((rd_T53 l0_0 x5_2).f1.f1), .slice A788_3 ((rd_T53 l0_0 x5_2).f2).length c788_3], .agg #[.int .i64 ((rd_T53 l1_0 x5_2).f0), .int .i64 ((rd_T53 l1_0 x5_2).f1.f0), .int .i64 ((rd_T53 l1_0 x5_2).f1.f1), .slice A789_3 ((rd_T53 l1_0 x5_2).f2).length c789_3]] (by rfl) rfl rfl (by (try simp only [List.map_toArray, List.map_cons, List.map_nil]); first | done | rfl | (simp only [List.length_drop, List.length_take]; rfl)) ?_
         with_reducible refine (mapmakerref14_SameNode.calls k2 ((rd_T53 l0_0 x5_2).f0) ((rd_T53 l0_0 x5_2).f1.f0) ((rd_T53 l0_0 x5_2).f1.f1) _ _ ((rd_T53 l0_0 x5_2).f2) ((rd_T53 l1_0 x5_2).f0) ((rd_T53 l1_0 x5_2).f1.f0) ((rd_T53 l1_0 x5_2).f1.f1) _ _ ((rd_T53 l1_0 x5_2).f2) t790 _ ?side1 ?side2 ?side3 ?side4 A21.out).mono ?_
         (case side1 => exact cl HR788_3)
         (case side2 => exact HC788_3.out)
         (case side3 => exact cl HR789_3)
         (case side4 => exact HC789_3.out)
         rintro e w26 ⟨rfl, hb⟩; refine ⟨_, rfl, ?_⟩; replace BK786 := aM (kB (kl BK786) hb); replace BK787 := aM (kB (kl BK787) hb); replace HB := aM (bS (bl) hb)
         (try clear hb)
         (try clear hb2)
         (try clear hk)
         (try clear hi)
         refine hK.out _ _ ⟨(kC BK786.out 0).trans rfl, (kC BK786.out 1).trans rfl, (kC BK786.out 2).trans rfl, (kC BK787.out 0).trans rfl, (kC BK787.out 1).trans rfl, (kC BK787.out 2).trans rfl, ((HB.out.cell (World.block_lt_of_cell? w _ hw788_0)).trans hw788_0), ((HB.out.cell (World.block_lt_of_cell? w _ hw788_1)).trans hw788_1), ((HB.out.cell (World.block_lt_of_cell? w _ hw788_2)).trans hw788_2), ((HB.out.cell (World.block_lt_of_cell? w _ hw788_3)).trans hw788_3), ((HB.out.cell (World.block_lt_of_cell? w _ hw789_0)).trans hw789_0), ((HB.out.cell (World.block_lt_of_cell? w _ hw789_1)).trans hw789_1), ((HB.out.cell (World.block_lt_of_cell? w _ hw789_2)).trans hw789_2), ((HB.out.cell (World.block_lt_of_cell? w _ hw789_3)).trans hw789_3)⟩ (fun hHeld => ?_); clear hK K; refine norm_ (a' := ?_) ?_ ?_; rotate_left
         ·show Act.put _ (some 50) _ = _
          simp only [Act.put, sA, sB, sC, i64_w, i32_w]; rfl
         refine pu 11 51 (ba 12 4095) ?_; refine done_ (done_of HT_.out (by kernel_rfl)) ?_; have H := HH_.out; clear HH_
         by_cases c22 : t790 = true
         ·subst c22; have H1 : (mapmakerref14_Same.l0 k2 (wrap64 (x5_2 + 1)) l0_0 l0_1 l0_2 l1_0 l1_1 l1_2) = some r := by rw [if_pos rfl] at H; exact H
          clear H; have H := H1; clear H1; have H' := aM H; clear H
          try go_wp2
          go_roundg k2
          case measure => have := HJ2.out; have := HK2.out; omega
          case rel => exact ⟨(wrap64 (x5_2 + 1)), (by first | rfl | (simp; done) | (simp [*]; done)), H', ⟨by have := HJ2.out; have := HK2.out; omega⟩, ⟨kl BK786⟩, ⟨kl BK787⟩, ⟨bl⟩⟩
         ·replace c22 := Bool.eq_false_iff.mpr c22; subst c22; have H1 : (some false) = some r := by rw [if_neg (show ¬ (false = true) by decide)] at H; exact H
          clear H; have H := H1; clear H1; obtain rfl := Option.some.inj H
          try go_wp2
          go_ret; exact ⟨by first | rfl | (simp [errW_none, errW_some] <;> rfl) | (simp [*, errW_none, errW_some] <;> rfl), bl⟩
        ·rw [if_neg c20] at H; exact absurd H (by simp)
       ·rw [if_neg c19] at H; exact absurd H (by simp)
      ·rw [if_neg c18] at H; have c18b0 : decide (x5_2 < (l0_0.length : Int)) = false := decide_eq_false c18; clear c18; have H' := aM H; clear H; have hn31 := nn NB786_787; have hz32 := bc3 BK786
       go_wp2
       go_loopg [6] k2 (fun kq v6 w' => ∃ (x6_3 : Int), v6 = .int .i64 x6_3 ∧ Aside0 (mapmakerref14_Same.l1 kq x6_3 l0_0 l0_1 l0_2 l1_0 l1_1 l1_2 = some r) ∧ Aside0 (kq ≤ k2) ∧ Aside0 (w'.heap[gb786]? = some (.cells #[(.slice A0_0 l0_0.length c0_0), (.slice A0_1 l0_1.length c0_1), (.slice A0_2 l0_2.length c0_2)] 26 (0, 0))) ∧ Aside0 (w'.heap[gb787]? = some (.cells #[(.slice A1_0 l1_0.length c1_0), (.slice A1_1 l1_1.length c1_1), (.slice A1_2 l1_2.length c1_2)] 26 (0, 0))) ∧ Aside0 (Below w.heap.size w w'))
       case atStart => exact ⟨(0), (by first | rfl | (simp; done) | (simp [*]; done)), H', ⟨Nat.le_refl _⟩, ⟨kl BK786⟩, ⟨kl BK787⟩, ⟨bl⟩⟩
       case round =>
        clear H'; (try clear c6); (try clear c6b0); (try clear c6b1); (try clear c6b2); (try clear c7); (try clear c7b0); (try clear c7b1); (try clear c7b2); (try clear c17); (try clear c18); (try clear c18b0); (try clear c19); (try clear c19b0); (try clear c20); (try clear c20b0); (try clear c22); (try clear hz10); (try clear hz12); (try clear hz13); (try clear hz15); (try clear hz16); (try clear hz24); (try clear hz32); (try clear hz9); (try clear hx788_0); (try clear hx788_1); (try clear hx788_2); (try clear hx788_3); (try clear hx789_0); (try clear hx789_1); (try clear hx789_2); (try clear hx789_3); (try clear p788); (try clear p789); (try clear q788); (try clear q789); obtain ⟨x6_3, rfl, HA, HK3, BK786, BK787, HB⟩ := hrel
        cases gk with
        | zero => exact absurd HA.out (by simp [mapmakerref14_Same.l1])
        | succ k3 =>
         have H := HA.out; clear HA; simp only [mapmakerref14_Same.l1] at H
         by_cases c33 : x6_3 < (l0_1.length : Int)
         ·rw [if_pos c33] at H; have c33b0 : decide (x6_3 < (l0_1.length : Int)) = true := decide_eq_true c33; clear c33
          by_cases c34 : 0 ≤ x6_3
          ·rw [if_pos c34] at H; have c34b0 : decide (0 ≤ x6_3) = true := decide_eq_true c34; clear c34
           by_cases c35 : x6_3 < (l1_1.length : Int)
           ·rw [if_pos c35] at H; have c35b0 : decide (x6_3 < (l1_1.length : Int)) = true := decide_eq_true c35; clear c35; replace H := Option.bind_eq_some_iff.mp H; obtain ⟨t793, A360, H⟩ := H; (try dsimp only at H); have A36 := aM A360; clear A360; have HH_ := aM H; clear H; have hn38 := nn NB786_787; have hz39 := bc3 BK786
            try go_wp2
            replace BK786 := aM (kD BK786.out); replace BK787 := aM (kD BK787.out); replace HB := aM (bD HB.out); have p791 : 0 ≤ (x6_3 : Int) := oT; have q791 : x6_3 < (l0_1.length : Int) := oT; obtain ⟨ad791, A791_1, c791_1, A791_2, c791_2, e791, hx791_0, hx791_1, hx791_2, hl791_1, hi791_1, hl791_2, hi791_2⟩ := at_T56 HR0_1.out x6_3 p791 q791; have hw791_2 := hx791_2; have hw791_1 := hx791_1; have hw791_0 := hx791_0; cases e791
            replace hx791_0 := hs HB.out hx791_0; replace hx791_1 := hs HB.out hx791_1; replace hx791_2 := hs HB.out hx791_2; have HR791_1 := aM hi791_1; have HC791_1 := aM hl791_1; clear hi791_1 hl791_1; have HR791_2 := aM hi791_2; have HC791_2 := aM hl791_2; clear hi791_2 hl791_2; replace p791 := eq_true p791; replace q791 := eq_true q791; have p792 : 0 ≤ (x6_3 : Int) := oT; have q792 : x6_3 < (l1_1.length : Int) := oT; obtain ⟨ad792, A792_1, c792_1, A792_2, c792_2, e792, hx792_0, hx792_1, hx792_2, hl792_1, hi792_1, hl792_2, hi792_2⟩ := at_T56 HR1_1.out x6_3 p792 q792; have hw792_2 := hx792_2; have hw792_1 := hx792_1; have hw792_0 := hx792_0; cases e792
            replace hx792_0 := hs HB.out hx792_0; replace hx792_1 := hs HB.out hx792_1; replace hx792_2 := hs HB.out hx792_2; have HR792_1 := aM hi792_1; have HC792_1 := aM hl792_1; clear hi792_1 hl792_1; have HR792_2 := aM hi792_2; have HC792_2 := aM hl792_2; clear hi792_2 hl792_2; replace p792 := eq_true p792; replace q792 := eq_true q792; refine start_ (n := 12) (S := fun w' => w'.cell? ⟨gb786, 0, none⟩ = some (.slice A0_0 l0_0.length c0_0) ∧ w'.cell? ⟨gb786, 1, none⟩ = some (.slice (some ad791) l0_1.length c0_1) ∧ w'.cell? ⟨gb786, 2, none⟩ = some (.slice A0_2 l0_2.length c0_2) ∧ w'.cell? ⟨gb787, 0, none⟩ = some (.slice A1_0 l1_0.length c1_0) ∧ w'.cell? ⟨gb787, 1, none⟩ = some (.slice (some ad792) l1_1.length c1_1) ∧ w'.cell? ⟨gb787, 2, none⟩ = some (.slice A1_2 l1_2.length c1_2) ∧ w'.cell? (ad791.add ((x6_3).toNat * 3)) = some (.int .i64 ((rd_T56 l0_1 x6_3).f0)) ∧ w'.cell? ⟨(ad791.add ((x6_3).toNat * 3)).block, (ad791.add ((x6_3).toNat * 3)).off + 1, none⟩ = some (.slice A791_1 ((rd_T56 l0_1 x6_3).f1).length c791_1) ∧ w'.cell? ⟨(ad791.add ((x6_3).toNat * 3)).block, (ad791.add ((x6_3).toNat * 3)).off + 2, none⟩ = some (.slice A791_2 ((rd_T56 l0_1 x6_3).f2).length c791_2) ∧ w'.cell? (ad792.add ((x6_3).toNat * 3)) = some (.int .i64 ((rd_T56 l1_1 x6_3).f0)) ∧ w'.cell? ⟨(ad792.add ((x6_3).toNat * 3)).block, (ad792.add ((x6_3).toNat * 3)).off + 1, none⟩ = some (.slice A792_1 ((rd_T56 l1_1 x6_3).f1).length c792_1) ∧ w'.cell? ⟨(ad792.add ((x6_3).toNat * 3)).block, (ad792.add ((x6_3).toNat * 3)).off + 2, none⟩ = some (.slice A792_2 ((rd_T56 l1_1 x6_3).f2).length c792_2)) (ds := []) #[false, false, false, false, false, false, false, false, false, false, false, false] (by kernel_rfl) rfl rfl ⟨(kC BK786.out 0).trans rfl, (kC BK786.out 1).trans rfl, (kC BK786.out 2).trans rfl, (kC BK787.out 0).trans rfl, (kC BK787.out 1).trans rfl, (kC BK787.out 2).trans rfl, ((HB.out.cell (World.block_lt_of_cell? w _ hw791_0)).trans hw791_0), ((HB.out.cell (World.block_lt_of_cell? w _ hw791_1)).trans hw791_1), ((HB.out.cell (World.block_lt_of_cell? w _ hw791_2)).trans hw791_2), ((HB.out.cell (World.block_lt_of_cell? w _ hw792_0)).trans hw792_0), ((HB.out.cell (World.block_lt_of_cell? w _ hw792_1)).trans hw792_1), ((HB.out.cell (World.block_lt_of_cell? w _ hw792_2)).trans hw792_2)⟩ (fun hHeld => ?_); refine with_tabW mapmakerref14_Same.tab11 mapmakerref14_Same.bits11 (fun HT_ HW_ => ?_); generalize wr.drew = w40 at BK786 BK787 HB HR791_1 HR791_2 HR792_1 HR792_2 hx791_0 hx791_1 hx791_2 hx792_0 hx792_1 hx792_2 hHeld ⊢; refine pu 0 59 (ba 12 1) ?_; refine pu 2 61 (ba 12 5) ?_; refine pu 5 64 (ba 12 37) ?_; refine pu 7 66 (ba 12 165) ?_; refine tk 1 60 (ba 12 167) ?_; refine pu 3 62 (ba 12 175) ?_; refine tk 4 63 (ba 12 191) ?_; refine tk 6 65 (ba 12 255) ?_; refine pu 8 67 (ba 12 511) ?_; refine tk 9 68 (ba 12 1023) ?_; refine one_ (i := 10) (N := some 69) (ba 12 2047) rfl rfl (one_of HT_.out (by kernel_rfl)) (by decide) (fun K hK => ?_); refine goes_ Try.func48 (by kernel_rfl) rfl #[.agg #[.int .i64 ((rd_T56 l0_1 x6_3).f0), .slice A791_1 ((rd_T56 l0_1 x6_3).f1).length c791_1, .slice A791_2 ((rd_T56 l0_1 x6_3).f2).length c791_2], .agg #[.int .i64 ((rd_T56 l1_1 x6_3).f0), .slice A792_1 ((rd_T56 l1_1 x6_3).f1).length c792_1, .slice A792_2 ((rd_T56 l1_1 x6_3).f2).length c792_2]] (by rfl) rfl rfl (by (try simp only [List.map_toArray, List.map_cons, List.map_nil]); first | done | rfl | (simp only [List.length_drop, List.length_take]; rfl)) ?_
            with_reducible refine (mapmakerref14_SameWay.calls k3 ((rd_T56 l0_1 x6_3).f0) _ _ ((rd_T56 l0_1 x6_3).f1) _ _ ((rd_T56 l0_1 x6_3).f2) ((rd_T56 l1_1 x6_3).f0) _ _ ((rd_T56 l1_1 x6_3).f1) _ _ ((rd_T56 l1_1 x6_3).f2) t793 _ ?side1 ?side2 ?side3 ?side4 ?side5 ?side6 ?side7 ?side8 A36.out).mono ?_
            (case side1 => exact cl HR791_1)
            (case side2 => exact HC791_1.out)
            (case side3 => exact cl HR791_2)
            (case side4 => exact HC791_2.out)
            (case side5 => exact cl HR792_1)
            (case side6 => exact HC792_1.out)
            (case side7 => exact cl HR792_2)
            (case side8 => exact HC792_2.out)
            rintro e w41 ⟨rfl, hb⟩; refine ⟨_, rfl, ?_⟩; replace BK786 := aM (kB (kl BK786) hb); replace BK787 := aM (kB (kl BK787) hb); replace HB := aM (bS (bl) hb)
            (try clear hb)
            (try clear hb2)
            (try clear hk)
            (try clear hi)
            refine hK.out _ _ ⟨(kC BK786.out 0).trans rfl, (kC BK786.out 1).trans rfl, (kC BK786.out 2).trans rfl, (kC BK787.out 0).trans rfl, (kC BK787.out 1).trans rfl, (kC BK787.out 2).trans rfl, ((HB.out.cell (World.block_lt_of_cell? w _ hw791_0)).trans hw791_0), ((HB.out.cell (World.block_lt_of_cell? w _ hw791_1)).trans hw791_1), ((HB.out.cell (World.block_lt_of_cell? w _ hw791_2)).trans hw791_2), ((HB.out.cell (World.block_lt_of_cell? w _ hw792_0)).trans hw792_0), ((HB.out.cell (World.block_lt_of_cell? w _ hw792_1)).trans hw792_1), ((HB.out.cell (World.block_lt_of_cell? w _ hw792_2)).trans hw792_2)⟩ (fun hHeld => ?_); clear hK K; refine norm_ (a' := ?_) ?_ ?_; rotate_left
            ·show Act.put _ (some 69) _ = _
             simp only [Act.put, sA, sB, sC, i64_w, i32_w]; rfl
            refine pu 11 70 (ba 12 4095) ?_; refine done_ (done_of HT_.out (by kernel_rfl)) ?_; have H := HH_.out; clear HH_
            by_cases c37 : t793 = true
            ·subst c37; have H1 : (mapmakerref14_Same.l1 k3 (wrap64 (x6_3 + 1)) l0_0 l0_1 l0_2 l1_0 l1_1 l1_2) = some r := by rw [if_pos rfl] at H; exact H
             clear H; have H := H1; clear H1; have H' := aM H; clear H
             try go_wp2
             go_roundg k3
             case measure => have := HJ2.out; have := HK2.out; have := HK3.out; omega
             case rel => exact ⟨(wrap64 (x6_3 + 1)), (by first | rfl | (simp; done) | (simp [*]; done)), H', ⟨by have := HJ2.out; have := HK2.out; have := HK3.out; omega⟩, ⟨kl BK786⟩, ⟨kl BK787⟩, ⟨bl⟩⟩
            ·replace c37 := Bool.eq_false_iff.mpr c37; subst c37; have H1 : (some false) = some r := by rw [if_neg (show ¬ (false = true) by decide)] at H; exact H
             clear H; have H := H1; clear H1; obtain rfl := Option.some.inj H
             try go_wp2
             go_ret; exact ⟨by first | rfl | (simp [errW_none, errW_some] <;> rfl) | (simp [*, errW_none, errW_some] <;> rfl), bl⟩
           ·rw [if_neg c35] at H; exact absurd H (by simp)
          ·rw [if_neg c34] at H; exact absurd H (by simp)
         ·rw [if_neg c33] at H; have c33b0 : decide (x6_3 < (l0_1.length : Int)) = false := decide_eq_false c33; clear c33; have H' := aM H; clear H; have hn46 := nn NB786_787; have hz47 := bc3 BK786
          go_wp2
          go_loopg [7] k3 (fun kq v7 w' => ∃ (x7_4 : Int), v7 = .int .i64 x7_4 ∧ Aside0 (mapmakerref14_Same.l2 kq x7_4 l0_0 l0_1 l0_2 l1_0 l1_1 l1_2 = some r) ∧ Aside0 (kq ≤ k3) ∧ Aside0 (w'.heap[gb786]? = some (.cells #[(.slice A0_0 l0_0.length c0_0), (.slice A0_1 l0_1.length c0_1), (.slice A0_2 l0_2.length c0_2)] 26 (0, 0))) ∧ Aside0 (w'.heap[gb787]? = some (.cells #[(.slice A1_0 l1_0.length c1_0), (.slice A1_1 l1_1.length c1_1), (.slice A1_2 l1_2.length c1_2)] 26 (0, 0))) ∧ Aside0 (Below w.heap.size w w'))
          case atStart => exact ⟨(0), (by first | rfl | (simp; done) | (simp [*]; done)), H', ⟨Nat.le_refl _⟩, ⟨kl BK786⟩, ⟨kl BK787⟩, ⟨bl⟩⟩
          case round =>
           clear H'; (try clear c6); (try clear c6b0); (try clear c6b1); (try clear c6b2); (try clear c7); (try clear c7b0); (try clear c7b1); (try clear c7b2); (try clear c17); (try clear c18); (try clear c18b0); (try clear c19); (try clear c19b0); (try clear c20); (try clear c20b0); (try clear c22); (try clear c33); (try clear c33b0); (try clear c34); (try clear c34b0); (try clear c35); (try clear c35b0); (try clear c37); (try clear hz10); (try clear hz12); (try clear hz13); (try clear hz15); (try clear hz16); (try clear hz24); (try clear hz32); (try clear hz39); (try clear hz47); (try clear hz9); (try clear hx788_0); (try clear hx788_1); (try clear hx788_2); (try clear hx788_3); (try clear hx789_0); (try clear hx789_1); (try clear hx789_2); (try clear hx789_3); (try clear hx791_0); (try clear hx791_1); (try clear hx791_2); (try clear hx792_0); (try clear hx792_1); (try clear hx792_2); (try clear p788); (try clear p789); (try clear p791); (try clear p792); (try clear q788); (try clear q789); (try clear q791); (try clear q792); obtain ⟨x7_4, rfl, HA, HK4, BK786, BK787, HB⟩ := hrel
           cases gk with
           | zero => exact absurd HA.out (by simp [mapmakerref14_Same.l2])
           | succ k4 =>
            have H := HA.out; clear HA; simp only [mapmakerref14_Same.l2] at H
            by_cases c48 : x7_4 < (l0_2.length : Int)
            ·rw [if_pos c48] at H; have c48b0 : decide (x7_4 < (l0_2.length : Int)) = true := decide_eq_true c48; clear c48
             by_cases c49 : 0 ≤ x7_4
             ·rw [if_pos c49] at H; have c49b0 : decide (0 ≤ x7_4) = true := decide_eq_true c49; clear c49
              by_cases c50 : x7_4 < (l1_2.length : Int)
              ·rw [if_pos c50] at H; have c50b0 : decide (x7_4 < (l1_2.length : Int)) = true := decide_eq_true c50; clear c50; replace H := Option.bind_eq_some_iff.mp H; obtain ⟨t796, A510, H⟩ := H; (try dsimp only at H); have A51 := aM A510; clear A510; have HH_ := aM H; clear H; have hn53 := nn NB786_787; have hz54 := bc3 BK786
               try go_wp2
               replace BK786 := aM (kD BK786.out); replace BK787 := aM (kD BK787.out); replace HB := aM (bD HB.out); have p794 : 0 ≤ (x7_4 : Int) := oT; have q794 : x7_4 < (l0_2.length : Int) := oT; obtain ⟨ad794, A794_1, c794_1, A794_2, c794_2, e794, hx794_0, hx794_1, hx794_2, hl794_1, hi794_1, hl794_2, hi794_2⟩ := at_T59 HR0_2.out x7_4 p794 q794; have hw794_2 := hx794_2; have hw794_1 := hx794_1; have hw794_0 := hx794_0; cases e794
               replace hx794_0 := hs HB.out hx794_0; replace hx794_1 := hs HB.out hx794_1; replace hx794_2 := hs HB.out hx794_2; have HR794_1 := aM hi794_1; have HC794_1 := aM hl794_1; clear hi794_1 hl794_1; have HR794_2 := aM hi794_2; have HC794_2 := aM hl794_2; clear hi794_2 hl794_2; replace p794 := eq_true p794; replace q794 := eq_true q794; have p795 : 0 ≤ (x7_4 : Int) := oT; have q795 : x7_4 < (l1_2.length : Int) := oT; obtain ⟨ad795, A795_1, c795_1, A795_2, c795_2, e795, hx795_0, hx795_1, hx795_2, hl795_1, hi795_1, hl795_2, hi795_2⟩ := at_T59 HR1_2.out x7_4 p795 q795; have hw795_2 := hx795_2; have hw795_1 := hx795_1; have hw795_0 := hx795_0; cases e795
               replace hx795_0 := hs HB.out hx795_0; replace hx795_1 := hs HB.out hx795_1; replace hx795_2 := hs HB.out hx795_2; have HR795_1 := aM hi795_1; have HC795_1 := aM hl795_1; clear hi795_1 hl795_1; have HR795_2 := aM hi795_2; have HC795_2 := aM hl795_2; clear hi795_2 hl795_2; replace p795 := eq_true p795; replace q795 := eq_true q795; refine start_ (n := 12) (S := fun w' => w'.cell? ⟨gb786, 0, none⟩ = some (.slice A0_0 l0_0.length c0_0) ∧ w'.cell? ⟨gb786, 1, none⟩ = some (.slice A0_1 l0_1.length c0_1) ∧ w'.cell? ⟨gb786, 2, none⟩ = some (.slice (some ad794) l0_2.length c0_2) ∧ w'.cell? ⟨gb787, 0, none⟩ = some (.slice A1_0 l1_0.length c1_0) ∧ w'.cell? ⟨gb787, 1, none⟩ = some (.slice A1_1 l1_1.length c1_1) ∧ w'.cell? ⟨gb787, 2, none⟩ = some (.slice (some ad795) l1_2.length c1_2) ∧ w'.cell? (ad794.add ((x7_4).toNat * 3)) = some (.int .i64 ((rd_T59 l0_2 x7_4).f0)) ∧ w'.cell? ⟨(ad794.add ((x7_4).toNat * 3)).block, (ad794.add ((x7_4).toNat * 3)).off + 1, none⟩ = some (.slice A794_1 ((rd_T59 l0_2 x7_4).f1).length c794_1) ∧ w'.cell? ⟨(ad794.add ((x7_4).toNat * 3)).block, (ad794.add ((x7_4).toNat * 3)).off + 2, none⟩ = some (.slice A794_2 ((rd_T59 l0_2 x7_4).f2).length c794_2) ∧ w'.cell? (ad795.add ((x7_4).toNat * 3)) = some (.int .i64 ((rd_T59 l1_2 x7_4).f0)) ∧ w'.cell? ⟨(ad795.add ((x7_4).toNat * 3)).block, (ad795.add ((x7_4).toNat * 3)).off + 1, none⟩ = some (.slice A795_1 ((rd_T59 l1_2 x7_4).f1).length c795_1) ∧ w'.cell? ⟨(ad795.add ((x7_4).toNat * 3)).block, (ad795.add ((x7_4).toNat * 3)).off + 2, none⟩ = some (.slice A795_2 ((rd_T59 l1_2 x7_4).f2).length c795_2)) (ds := []) #[false, false, false, false, false, false, false, false, false, false, false, false] (by kernel_rfl) rfl rfl ⟨(kC BK786.out 0).trans rfl, (kC BK786.out 1).trans rfl, (kC BK786.out 2).trans rfl, (kC BK787.out 0).trans rfl, (kC BK787.out 1).trans rfl, (kC BK787.out 2).trans rfl, ((HB.out.cell (World.block_lt_of_cell? w _ hw794_0)).trans hw794_0), ((HB.out.cell (World.block_lt_of_cell? w _ hw794_1)).trans hw794_1), ((HB.out.cell (World.block_lt_of_cell? w _ hw794_2)).trans hw794_2), ((HB.out.cell (World.block_lt_of_cell? w _ hw795_0)).trans hw795_0), ((HB.out.cell (World.block_lt_of_cell? w _ hw795_1)).trans hw795_1), ((HB.out.cell (World.block_lt_of_cell? w _ hw795_2)).trans hw795_2)⟩ (fun hHeld => ?_); refine with_tabW mapmakerref14_Same.tab16 mapmakerref14_Same.bits16 (fun HT_ HW_ => ?_); generalize wr.drew = w55 at BK786 BK787 HB HR794_1 HR794_2 HR795_1 HR795_2 hx794_0 hx794_1 hx794_2 hx795_0 hx795_1 hx795_2 hHeld ⊢; refine pu 0 78 (ba 12 1) ?_; refine pu 2 80 (ba 12 5) ?_; refine pu 5 83 (ba 12 37) ?_; refine pu 7 85 (ba 12 165) ?_; refine tk 1 79 (ba 12 167) ?_; refine pu 3 81 (ba 12 175) ?_; refine tk 4 82 (ba 12 191) ?_; refine tk 6 84 (ba 12 255) ?_; refine pu 8 86 (ba 12 511) ?_; refine tk 9 87 (ba 12 1023) ?_; refine one_ (i := 10) (N := some 88) (ba 12 2047) rfl rfl (one_of HT_.out (by kernel_rfl)) (by decide) (fun K hK => ?_); refine goes_ Try.func49 (by kernel_rfl) rfl #[.agg #[.int .i64 ((rd_T59 l0_2 x7_4).f0), .slice A794_1 ((rd_T59 l0_2 x7_4).f1).length c794_1, .slice A794_2 ((rd_T59 l0_2 x7_4).f2).length c794_2], .agg #[.int .i64 ((rd_T59 l1_2 x7_4).f0), .slice A795_1 ((rd_T59 l1_2 x7_4).f1).length c795_1, .slice A795_2 ((rd_T59 l1_2 x7_4).f2).length c795_2]] (by rfl) rfl rfl (by (try simp only [List.map_toArray, List.map_cons, List.map_nil]); first | done | rfl | (simp only [List.length_drop, List.length_take]; rfl)) ?_
               with_reducible refine (mapmakerref14_SameRel.calls k4 ((rd_T59 l0_2 x7_4).f0) _ _ ((rd_T59 l0_2 x7_4).f1) _ _ ((rd_T59 l0_2 x7_4).f2) ((rd_T59 l1_2 x7_4).f0) _ _ ((rd_T59 l1_2 x7_4).f1) _ _ ((rd_T59 l1_2 x7_4).f2) t796 _ ?side1 ?side2 ?side3 ?side4 ?side5 ?side6 ?side7 ?side8 A51.out).mono ?_
               (case side1 => exact cl HR794_1)
               (case side2 => exact HC794_1.out)
               (case side3 => exact cl HR794_2)
               (case side4 => exact HC794_2.out)
               (case side5 => exact cl HR795_1)
               (case side6 => exact HC795_1.out)
               (case side7 => exact cl HR795_2)
               (case side8 => exact HC795_2.out)
               rintro e w56 ⟨rfl, hb⟩; refine ⟨_, rfl, ?_⟩; replace BK786 := aM (kB (kl BK786) hb); replace BK787 := aM (kB (kl BK787) hb); replace HB := aM (bS (bl) hb)
               (try clear hb)
               (try clear hb2)
               (try clear hk)
               (try clear hi)
               refine hK.out _ _ ⟨(kC BK786.out 0).trans rfl, (kC BK786.out 1).trans rfl, (kC BK786.out 2).trans rfl, (kC BK787.out 0).trans rfl, (kC BK787.out 1).trans rfl, (kC BK787.out 2).trans rfl, ((HB.out.cell (World.block_lt_of_cell? w _ hw794_0)).trans hw794_0), ((HB.out.cell (World.block_lt_of_cell? w _ hw794_1)).trans hw794_1), ((HB.out.cell (World.block_lt_of_cell? w _ hw794_2)).trans hw794_2), ((HB.out.cell (World.block_lt_of_cell? w _ hw795_0)).trans hw795_0), ((HB.out.cell (World.block_lt_of_cell? w _ hw795_1)).trans hw795_1), ((HB.out.cell (World.block_lt_of_cell? w _ hw795_2)).trans hw795_2)⟩ (fun hHeld => ?_); clear hK K; refine norm_ (a' := ?_) ?_ ?_; rotate_left
               ·show Act.put _ (some 88) _ = _
                simp only [Act.put, sA, sB, sC, i64_w, i32_w]; rfl
               refine pu 11 89 (ba 12 4095) ?_; refine done_ (done_of HT_.out (by kernel_rfl)) ?_; have H := HH_.out; clear HH_
               by_cases c52 : t796 = true
               ·subst c52; have H1 : (mapmakerref14_Same.l2 k4 (wrap64 (x7_4 + 1)) l0_0 l0_1 l0_2 l1_0 l1_1 l1_2) = some r := by rw [if_pos rfl] at H; exact H
                clear H; have H := H1; clear H1; have H' := aM H; clear H
                try go_wp2
                go_roundg k4
                case measure => have := HJ2.out; have := HK2.out; have := HK3.out; have := HK4.out; omega
                case rel => exact ⟨(wrap64 (x7_4 + 1)), (by first | rfl | (simp; done) | (simp [*]; done)), H', ⟨by have := HJ2.out; have := HK2.out; have := HK3.out; have := HK4.out; omega⟩, ⟨kl BK786⟩, ⟨kl BK787⟩, ⟨bl⟩⟩
               ·replace c52 := Bool.eq_false_iff.mpr c52; subst c52; have H1 : (some false) = some r := by rw [if_neg (show ¬ (false = true) by decide)] at H; exact H
                clear H; have H := H1; clear H1; obtain rfl := Option.some.inj H
                try go_wp2
                go_ret; exact ⟨by first | rfl | (simp [errW_none, errW_some] <;> rfl) | (simp [*, errW_none, errW_some] <;> rfl), bl⟩
              ·rw [if_neg c50] at H; exact absurd H (by simp)
             ·rw [if_neg c49] at H; exact absurd H (by simp)
            ·rw [if_neg c48] at H; have c48b0 : decide (x7_4 < (l0_2.length : Int)) = false := decide_eq_false c48; clear c48; obtain rfl := Option.some.inj H; have hn61 := nn NB786_787; have hz62 := bc3 BK786
             go_wp2
             go_ret; exact ⟨by first | rfl | (simp [errW_none, errW_some] <;> rfl) | (simp [*, errW_none, errW_some] <;> rfl), bl⟩
end Go.Proofs.Ytefambkodalomaa.PAll
