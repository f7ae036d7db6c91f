-- out of a driver of this session's prover over the kit's print: Lean checks it
import Derived.Test.YtijoaohckgbneaaGreatPAllx0
import Derived.Test.YtijoaohckgbneaaGreatPAllx11
import Derived.Test.YtijoaohckgbneaaGreatPAllx12
namespace Go.Proofs.YtijoaohckgbneaaGreat.PAll
open Go.Proofs.YtijoaohckgbneaaGreatG Go.Shelf Go.Lib
open Go.RowKit Go.Proofs.YtijoaohckgbneaaGreatW.PrintWords Go.Proofs.YtijoaohckgbneaaGreatW.PrintLast Go.Proofs.YtijoaohckgbneaaGreatW.PrintMore
attribute [local go_sem] max2_int min2_int max_two min_two max_three min_three max_four min_four   -- for this text's walks alone
set_option linter.unusedVariables false
set_option linter.unusedSimpArgs false
mutual
def mapmakerref14_Same.j0 : Nat → Bool → List (S37) → List (S40) → List (S43) → List (S37) → List (S40) → List (S43) → Option (Bool)
 | 0, _, _, _, _, _, _, _ => none
 | k + 1, x32, x152000, x152001, x152002, x153000, x153001, x153002 => if x32 = true then (some false) else (mapmakerref14_Same.l0 k 0 x152000 x152001 x152002 x153000 x153001 x153002)
def mapmakerref14_Same.l0 : Nat → Int → List (S37) → List (S40) → List (S43) → List (S37) → List (S40) → List (S43) → Option (Bool)
 | 0, _, _, _, _, _, _, _ => none
 | k + 1, x5, x152000, x152001, x152002, x153000, x153001, x153002 => if x5 < (x152000.length : Int) then (if 0 ≤ x5 then (if x5 < (x153000.length : Int) then ((mapmakerref14_SameNode.f k ((rd_T37 x152000 x5).f0) ((rd_T37 x152000 x5).f1.f0) ((rd_T37 x152000 x5).f1.f1) ((rd_T37 x152000 x5).f2) ((rd_T37 x153000 x5).f0) ((rd_T37 x153000 x5).f1.f0) ((rd_T37 x153000 x5).f1.f1) ((rd_T37 x153000 x5).f2)).bind fun t155 => (if t155 = true then (mapmakerref14_Same.l0 k (wrap64 (x5 + 1)) x152000 x152001 x152002 x153000 x153001 x153002) else (some false))) else (none)) else (none)) else (mapmakerref14_Same.l1 k 0 x152000 x152001 x152002 x153000 x153001 x153002)
def mapmakerref14_Same.l1 : Nat → Int → List (S37) → List (S40) → List (S43) → List (S37) → List (S40) → List (S43) → Option (Bool)
 | 0, _, _, _, _, _, _, _ => none
 | k + 1, x6, x152000, x152001, x152002, x153000, x153001, x153002 => if x6 < (x152001.length : Int) then (if 0 ≤ x6 then (if x6 < (x153001.length : Int) then ((mapmakerref14_SameWay.f k ((rd_T40 x152001 x6).f0) ((rd_T40 x152001 x6).f1) ((rd_T40 x152001 x6).f2) ((rd_T40 x153001 x6).f0) ((rd_T40 x153001 x6).f1) ((rd_T40 x153001 x6).f2)).bind fun t158 => (if t158 = true then (mapmakerref14_Same.l1 k (wrap64 (x6 + 1)) x152000 x152001 x152002 x153000 x153001 x153002) else (some false))) else (none)) else (none)) else (mapmakerref14_Same.l2 k 0 x152000 x152001 x152002 x153000 x153001 x153002)
def mapmakerref14_Same.l2 : Nat → Int → List (S37) → List (S40) → List (S43) → List (S37) → List (S40) → List (S43) → Option (Bool)
 | 0, _, _, _, _, _, _, _ => none
 | k + 1, x7, x152000, x152001, x152002, x153000, x153001, x153002 => if x7 < (x152002.length : Int) then (if 0 ≤ x7 then (if x7 < (x153002.length : Int) then ((mapmakerref14_SameRel.f k ((rd_T43 x152002 x7).f0) ((rd_T43 x152002 x7).f1) ((rd_T43 x152002 x7).f2) ((rd_T43 x153002 x7).f0) ((rd_T43 x153002 x7).f1) ((rd_T43 x153002 x7).f2)).bind fun t161 => (if t161 = true then (mapmakerref14_Same.l2 k (wrap64 (x7 + 1)) x152000 x152001 x152002 x153000 x153001 x153002) else (some false))) else (none)) else (none)) else (some true)
end
def mapmakerref14_Same.f (k : Nat) (l0_0 : List (S37)) (l0_1 : List (S40)) (l0_2 : List (S43)) (l1_0 : List (S37)) (l1_1 : List (S40)) (l1_2 : List (S43)) : Option (Bool) := if (l0_0.length : Int) = (l1_0.length : Int) then (if (l0_1.length : Int) = (l1_1.length : Int) then (mapmakerref14_Same.j0 k ((l0_2.length : Int) != (l1_2.length : Int)) l0_0 l0_1 l0_2 l1_0 l1_1 l1_2) else (mapmakerref14_Same.j0 k true l0_0 l0_1 l0_2 l1_0 l1_1 l1_2)) else (mapmakerref14_Same.j0 k true l0_0 l0_1 l0_2 l1_0 l1_1 l1_2)
theorem mapmakerref14_Same.mono_l : ∀ k, (∀ y0 y1 y2 y3 y4 y5 y6, LeO (mapmakerref14_Same.j0 k y0 y1 y2 y3 y4 y5 y6) (mapmakerref14_Same.j0 (k + 1) y0 y1 y2 y3 y4 y5 y6)) ∧ (∀ y0 y1 y2 y3 y4 y5 y6, LeO (mapmakerref14_Same.l0 k y0 y1 y2 y3 y4 y5 y6) (mapmakerref14_Same.l0 (k + 1) y0 y1 y2 y3 y4 y5 y6)) ∧ (∀ y0 y1 y2 y3 y4 y5 y6, LeO (mapmakerref14_Same.l1 k y0 y1 y2 y3 y4 y5 y6) (mapmakerref14_Same.l1 (k + 1) y0 y1 y2 y3 y4 y5 y6)) ∧ (∀ y0 y1 y2 y3 y4 y5 y6, LeO (mapmakerref14_Same.l2 k y0 y1 y2 y3 y4 y5 y6) (mapmakerref14_Same.l2 (k + 1) y0 y1 y2 y3 y4 y5 y6))
 | 0 => ⟨fun _ _ _ _ _ _ _ r h => by simp [mapmakerref14_Same.j0] at h, fun _ _ _ _ _ _ _ r h => by simp [mapmakerref14_Same.l0] at h, fun _ _ _ _ _ _ _ r h => by simp [mapmakerref14_Same.l1] at h, fun _ _ _ _ _ _ _ r h => by simp [mapmakerref14_Same.l2] at h⟩
 | k + 1 => by
  obtain ⟨ih0, ih1, ih2, ih3⟩ := mapmakerref14_Same.mono_l k
  refine ⟨?_, ?_, ?_, ?_⟩
  ·intro y0 y1 y2 y3 y4 y5 y6
   unfold mapmakerref14_Same.j0
   repeat' first
   | (with_reducible exact ih0 _ _ _ _ _ _ _)
   | (with_reducible exact ih1 _ _ _ _ _ _ _)
   | (with_reducible exact ih2 _ _ _ _ _ _ _)
   | (with_reducible exact ih3 _ _ _ _ _ _ _)
   | (with_reducible exact mapmakerref14_SameNode.mono _ _ _ _ _ _ _ _ _)
   | (with_reducible exact mapmakerref14_SameRel.mono _ _ _ _ _ _ _)
   | (with_reducible exact mapmakerref14_SameWay.mono _ _ _ _ _ _ _)
   | (with_reducible exact LeO.refl _)
   | (with_reducible exact LeO.none _)
   | (with_reducible refine LeO.ite ?_ ?_)
   | (with_reducible refine LeO.bind ?_ (fun _ => ?_))
   | exact ih0 _ _ _ _ _ _ _
   | exact ih1 _ _ _ _ _ _ _
   | exact ih2 _ _ _ _ _ _ _
   | exact ih3 _ _ _ _ _ _ _
   | exact mapmakerref14_SameNode.mono _ _ _ _ _ _ _ _ _
   | exact mapmakerref14_SameRel.mono _ _ _ _ _ _ _
   | exact mapmakerref14_SameWay.mono _ _ _ _ _ _ _
   | exact LeO.none _
   | refine LeO.ite ?_ ?_
   | refine LeO.bind ?_ (fun _ => ?_)
  ·intro y0 y1 y2 y3 y4 y5 y6
   unfold mapmakerref14_Same.l0
   repeat' first
   | (with_reducible exact ih0 _ _ _ _ _ _ _)
   | (with_reducible exact ih1 _ _ _ _ _ _ _)
   | (with_reducible exact ih2 _ _ _ _ _ _ _)
   | (with_reducible exact ih3 _ _ _ _ _ _ _)
   | (with_reducible exact mapmakerref14_SameNode.mono _ _ _ _ _ _ _ _ _)
   | (with_reducible exact mapmakerref14_SameRel.mono _ _ _ _ _ _ _)
   | (with_reducible exact mapmakerref14_SameWay.mono _ _ _ _ _ _ _)
   | (with_reducible exact LeO.refl _)
   | (with_reducible exact LeO.none _)
   | (with_reducible refine LeO.ite ?_ ?_)
   | (with_reducible refine LeO.bind ?_ (fun _ => ?_))
   | exact ih0 _ _ _ _ _ _ _
   | exact ih1 _ _ _ _ _ _ _
   | exact ih2 _ _ _ _ _ _ _
   | exact ih3 _ _ _ _ _ _ _
   | exact mapmakerref14_SameNode.mono _ _ _ _ _ _ _ _ _
   | exact mapmakerref14_SameRel.mono _ _ _ _ _ _ _
   | exact mapmakerref14_SameWay.mono _ _ _ _ _ _ _
   | exact LeO.none _
   | refine LeO.ite ?_ ?_
   | refine LeO.bind ?_ (fun _ => ?_)
  ·intro y0 y1 y2 y3 y4 y5 y6
   unfold mapmakerref14_Same.l1
   repeat' first
   | (with_reducible exact ih0 _ _ _ _ _ _ _)
   | (with_reducible exact ih1 _ _ _ _ _ _ _)
   | (with_reducible exact ih2 _ _ _ _ _ _ _)
   | (with_reducible exact ih3 _ _ _ _ _ _ _)
   | (with_reducible exact mapmakerref14_SameNode.mono _ _ _ _ _ _ _ _ _)
   | (with_reducible exact mapmakerref14_SameRel.mono _ _ _ _ _ _ _)
   | (with_reducible exact mapmakerref14_SameWay.mono _ _ _ _ _ _ _)
   | (with_reducible exact LeO.refl _)
   | (with_reducible exact LeO.none _)
   | (with_reducible refine LeO.ite ?_ ?_)
   | (with_reducible refine LeO.bind ?_ (fun _ => ?_))
   | exact ih0 _ _ _ _ _ _ _
   | exact ih1 _ _ _ _ _ _ _
   | exact ih2 _ _ _ _ _ _ _
   | exact ih3 _ _ _ _ _ _ _
   | exact mapmakerref14_SameNode.mono _ _ _ _ _ _ _ _ _
   | exact mapmakerref14_SameRel.mono _ _ _ _ _ _ _
   | exact mapmakerref14_SameWay.mono _ _ _ _ _ _ _
   | exact LeO.none _
   | refine LeO.ite ?_ ?_
   | refine LeO.bind ?_ (fun _ => ?_)
  ·intro y0 y1 y2 y3 y4 y5 y6
   unfold mapmakerref14_Same.l2
   repeat' first
   | (with_reducible exact ih0 _ _ _ _ _ _ _)
   | (with_reducible exact ih1 _ _ _ _ _ _ _)
   | (with_reducible exact ih2 _ _ _ _ _ _ _)
   | (with_reducible exact ih3 _ _ _ _ _ _ _)
   | (with_reducible exact mapmakerref14_SameNode.mono _ _ _ _ _ _ _ _ _)
   | (with_reducible exact mapmakerref14_SameRel.mono _ _ _ _ _ _ _)
   | (with_reducible exact mapmakerref14_SameWay.mono _ _ _ _ _ _ _)
   | (with_reducible exact LeO.refl _)
   | (with_reducible exact LeO.none _)
   | (with_reducible refine LeO.ite ?_ ?_)
   | (with_reducible refine LeO.bind ?_ (fun _ => ?_))
   | exact ih0 _ _ _ _ _ _ _
   | exact ih1 _ _ _ _ _ _ _
   | exact ih2 _ _ _ _ _ _ _
   | exact ih3 _ _ _ _ _ _ _
   | exact mapmakerref14_SameNode.mono _ _ _ _ _ _ _ _ _
   | exact mapmakerref14_SameRel.mono _ _ _ _ _ _ _
   | exact mapmakerref14_SameWay.mono _ _ _ _ _ _ _
   | exact LeO.none _
   | refine LeO.ite ?_ ?_
   | refine LeO.bind ?_ (fun _ => ?_)
theorem mapmakerref14_Same.mono : ∀ a0 a1 a2 a3 a4 a5 k, LeO (mapmakerref14_Same.f k a0 a1 a2 a3 a4 a5) (mapmakerref14_Same.f (k + 1) a0 a1 a2 a3 a4 a5) := by
 intro a0 a1 a2 a3 a4 a5 k; obtain ⟨ih0, ih1, ih2, ih3⟩ := mapmakerref14_Same.mono_l k; unfold mapmakerref14_Same.f
 repeat' first
   | (with_reducible exact ih0 _ _ _ _ _ _ _)
   | (with_reducible exact ih1 _ _ _ _ _ _ _)
   | (with_reducible exact ih2 _ _ _ _ _ _ _)
   | (with_reducible exact ih3 _ _ _ _ _ _ _)
   | (with_reducible exact mapmakerref14_SameNode.mono _ _ _ _ _ _ _ _ _)
   | (with_reducible exact mapmakerref14_SameRel.mono _ _ _ _ _ _ _)
   | (with_reducible exact mapmakerref14_SameWay.mono _ _ _ _ _ _ _)
   | (with_reducible exact LeO.refl _)
   | (with_reducible exact LeO.none _)
   | (with_reducible refine LeO.ite ?_ ?_)
   | (with_reducible refine LeO.bind ?_ (fun _ => ?_))
   | exact ih0 _ _ _ _ _ _ _
   | exact ih1 _ _ _ _ _ _ _
   | exact ih2 _ _ _ _ _ _ _
   | exact ih3 _ _ _ _ _ _ _
   | exact mapmakerref14_SameNode.mono _ _ _ _ _ _ _ _ _
   | exact mapmakerref14_SameRel.mono _ _ _ _ _ _ _
   | exact mapmakerref14_SameWay.mono _ _ _ _ _ _ _
   | exact LeO.none _
   | refine LeO.ite ?_ ?_
   | refine LeO.bind ?_ (fun _ => ?_)
def mapmakerref14_Same.T6 : Bool × List (List Nat × List Nat) := (true, [([], []), ([0], [0]), ([], []), ([1, 2], [1, 2]), ([3], [3]), ([], []), ([5], [5]), ([], []), ([6, 7], [6, 7]), ([8], [8]), ([4, 9], [4, 9]), ([10], [10])])
def mapmakerref14_Same.B6 : List Nat := [0, 1, 0, 7, 15, 0, 32, 0, 224, 480, 1023, 2047]
theorem mapmakerref14_Same.tab6 : rtab .any (opsOf Tryz.f18 6) = mapmakerref14_Same.T6 := by kernel_rfl
theorem mapmakerref14_Same.bits6 : waitsOk mapmakerref14_Same.T6.2 mapmakerref14_Same.B6 = true := by kernel_rfl
def mapmakerref14_Same.T11 : Bool × List (List Nat × List Nat) := (true, [([], []), ([0], [0]), ([], []), ([1, 2], [1, 2]), ([3], [3]), ([], []), ([5], [5]), ([], []), ([6, 7], [6, 7]), ([8], [8]), ([4, 9], [4, 9]), ([10], [10])])
def mapmakerref14_Same.B11 : List Nat := [0, 1, 0, 7, 15, 0, 32, 0, 224, 480, 1023, 2047]
theorem mapmakerref14_Same.tab11 : rtab .any (opsOf Tryz.f18 11) = mapmakerref14_Same.T11 := by kernel_rfl
theorem mapmakerref14_Same.bits11 : waitsOk mapmakerref14_Same.T11.2 mapmakerref14_Same.B11 = true := by kernel_rfl
def mapmakerref14_Same.T16 : Bool × List (List Nat × List Nat) := (true, [([], []), ([0], [0]), ([], []), ([1, 2], [1, 2]), ([3], [3]), ([], []), ([5], [5]), ([], []), ([6, 7], [6, 7]), ([8], [8]), ([4, 9], [4, 9]), ([10], [10])])
def mapmakerref14_Same.B16 : List Nat := [0, 1, 0, 7, 15, 0, 32, 0, 224, 480, 1023, 2047]
theorem mapmakerref14_Same.tab16 : rtab .any (opsOf Tryz.f18 16) = mapmakerref14_Same.T16 := by kernel_rfl
theorem mapmakerref14_Same.bits16 : waitsOk mapmakerref14_Same.T16.2 mapmakerref14_Same.B16 = true := by kernel_rfl
set_option maxHeartbeats 8000000 in
set_option maxRecDepth 100000 in
theorem mapmakerref14_Same.calls (k : Nat) (A0_0 : Option Addr) (c0_0 : Nat) (l0_0 : List (S37)) (A0_1 : Option Addr) (c0_1 : Nat) (l0_1 : List (S40)) (A0_2 : Option Addr) (c0_2 : Nat) (l0_2 : List (S43)) (A1_0 : Option Addr) (c1_0 : Nat) (l1_0 : List (S37)) (A1_1 : Option Addr) (c1_1 : Nat) (l1_1 : List (S40)) (A1_2 : Option Addr) (c1_2 : Nat) (l1_2 : List (S43)) (r : Bool) (w : World) (hr0_0 : Kd.C k37 w A0_0 l0_0.length l0_0) (hc0_0 : l0_0.length ≤ c0_0) (hr0_1 : Kd.C k40 w A0_1 l0_1.length l0_1) (hc0_1 : l0_1.length ≤ c0_1) (hr0_2 : Kd.C k43 w A0_2 l0_2.length l0_2) (hc0_2 : l0_2.length ≤ c0_2) (hr1_0 : Kd.C k37 w A1_0 l1_0.length l1_0) (hc1_0 : l1_0.length ≤ c1_0) (hr1_1 : Kd.C k40 w A1_1 l1_1.length l1_1) (hc1_1 : l1_1.length ≤ c1_1) (hr1_2 : Kd.C k43 w A1_2 l1_2.length l1_2) (hc1_2 : l1_2.length ≤ c1_2) (h : mapmakerref14_Same.f k l0_0 l0_1 l0_2 l1_0 l1_1 l1_2 = some r) :
  Calls Tryz.prog 18 #[.agg #[.slice A0_0 l0_0.length c0_0, .slice A0_1 l0_1.length c0_1, .slice A0_2 l0_2.length c0_2], .agg #[.slice A1_0 l1_0.length c1_0, .slice A1_1 l1_1.length c1_1, .slice A1_2 l1_2.length c1_2]] w fun e w' => e = .returned (.bool r) ∧ Below w.heap.size w w' := by
 have hu26 := Tryz.underlying26; have hu37 := Tryz.underlying37; have hu40 := Tryz.underlying40; have hu43 := Tryz.underlying43; have HR0_0 := aM hr0_0; have HC0_0 := aM hc0_0; clear hr0_0 hc0_0; have HR0_1 := aM hr0_1; have HC0_1 := aM hc0_1; clear hr0_1 hc0_1; have HR0_2 := aM hr0_2; have HC0_2 := aM hc0_2; clear hr0_2 hc0_2; have HR1_0 := aM hr1_0; have HC1_0 := aM hc1_0; clear hr1_0 hc1_0; have HR1_1 := aM hr1_1; have HC1_1 := aM hc1_1; clear hr1_1 hc1_1; have HR1_2 := aM hr1_2; have HC1_2 := aM hc1_2; clear hr1_2 hc1_2; have HB := aM (Below.refl w.heap.size w); have H : (if (l0_0.length : Int) = (l1_0.length : Int) then (if (l0_1.length : Int) = (l1_1.length : Int) then (mapmakerref14_Same.j0 k ((l0_2.length : Int) != (l1_2.length : Int)) l0_0 l0_1 l0_2 l1_0 l1_1 l1_2) else (mapmakerref14_Same.j0 k true l0_0 l0_1 l0_2 l1_0 l1_1 l1_2)) else (mapmakerref14_Same.j0 k true l0_0 l0_1 l0_2 l1_0 l1_1 l1_2)) = some r := h; clear h; have HC3 := aM H; clear H; go_enter Tryz.func18, Tryz.ntmps18
 go_upto_region 1 with (first | ((with_reducible refine gate_dst (N := 2) rfl ?_); (try (refine gate_guard (by rfl) ?_; dsimp only)); refine bx (N := 2) (cs := #[.slice A0_0 l0_0.length c0_0, .slice A0_1 l0_1.length c0_1, .slice A0_2 l0_2.length c0_2]) (t := 26) ?_; intro gb151 hg w4 hbox hb; have BK151 := aM (hbox); have GE151 := aM (gw (w := w) hg); replace HB := aM (bS (bl) hb); clear hb hbox hg) | ((with_reducible refine gate_dst (N := 3) rfl ?_); (try (refine gate_guard (by rfl) ?_; dsimp only)); refine bx (N := 3) (cs := #[.slice A1_0 l1_0.length c1_0, .slice A1_1 l1_1.length c1_1, .slice A1_2 l1_2.length c1_2]) (t := 26) ?_; intro gb152 hg w5 hbox hb; have BK152 := aM (hbox); have GE152 := aM (gw (w := w) hg); obtain ⟨NB151_152, NB152_151⟩ := n2 BK151 hg; replace BK151 := aM (kB (kl BK151) hb); replace HB := aM (bS (bl) hb); clear hb hbox hg))
 (try simp only [Act.put, sA, sB, sC])
 go_cut [32] (fun v32 wc => ∃ (kq : Nat) (x32_2 : Bool), v32 = .bool x32_2 ∧ Aside0 (mapmakerref14_Same.j0 kq x32_2 l0_0 l0_1 l0_2 l1_0 l1_1 l1_2 = some r) ∧ Aside0 (kq ≤ k) ∧ Aside0 (wc.heap[gb151]? = some (.cells #[(.slice A0_0 l0_0.length c0_0), (.slice A0_1 l0_1.length c0_1), (.slice A0_2 l0_2.length c0_2)] 26 (0, 0))) ∧ Aside0 (wc.heap[gb152]? = some (.cells #[(.slice A1_0 l1_0.length c1_0), (.slice A1_1 l1_1.length c1_1), (.slice A1_2 l1_2.length c1_2)] 26 (0, 0))) ∧ Aside0 (Below w.heap.size w wc))
 case first =>
  have H := HC3.out; clear HC3
  by_cases c6 : (l0_0.length : Int) = (l1_0.length : Int)
  ·rw [if_pos c6] at H; have c6b0 : ((l0_0.length : Int) == (l1_0.length : Int)) = true := beq_iff_eq.mpr c6; have c6b1 : ((l0_0.length : Int) != (l1_0.length : Int)) = false := bne_eq_false_iff_eq.mpr c6; have c6b2 : (l0_0.length == l1_0.length) = true := by first | simpa using c6 | (simp at c6 ⊢; omega)
   clear c6
   (first | rw [c6b0] | (simp only [i64_w, i32_w]; rw [c6b0]) | skip)
   by_cases c7 : (l0_1.length : Int) = (l1_1.length : Int)
   ·rw [if_pos c7] at H; have c7b0 : ((l0_1.length : Int) == (l1_1.length : Int)) = true := beq_iff_eq.mpr c7; have c7b1 : ((l0_1.length : Int) != (l1_1.length : Int)) = false := bne_eq_false_iff_eq.mpr c7; have c7b2 : (l0_1.length == l1_1.length) = true := by first | simpa using c7 | (simp at c7 ⊢; omega)
    clear c7; have H' := aM H; clear H; have hn8 := nn NB151_152; have hz9 := bc3 BK151; have hz10 := bc3 BK152
    go_wp2
    go_meet
    case rel => exact ⟨_, (((l0_2.length : Int) != (l1_2.length : Int))), (by first | rfl | (simp; done) | (simp [*]; done)), H', ⟨by first | omega | exact Nat.le_refl _⟩, ⟨kl BK151⟩, ⟨kl BK152⟩, ⟨bl⟩⟩
   ·rw [if_neg c7] at H; have c7b0 : ((l0_1.length : Int) == (l1_1.length : Int)) = false := beq_eq_false_iff_ne.mpr c7; have c7b1 : ((l0_1.length : Int) != (l1_1.length : Int)) = true := bne_iff_ne.mpr c7; have c7b2 : (l0_1.length == l1_1.length) = false := by first | simpa using c7 | (simp at c7 ⊢; omega)
    have H' := aM H; clear H; have hn11 := nn NB151_152; have hz12 := bc3 BK151; have hz13 := bc3 BK152
    go_wp2
    go_meet
    case rel => exact ⟨_, (true), (by first | rfl | (simp; done) | (simp [*]; done)), H', ⟨by first | omega | exact Nat.le_refl _⟩, ⟨kl BK151⟩, ⟨kl BK152⟩, ⟨bl⟩⟩
  ·rw [if_neg c6] at H; have c6b0 : ((l0_0.length : Int) == (l1_0.length : Int)) = false := beq_eq_false_iff_ne.mpr c6; have c6b1 : ((l0_0.length : Int) != (l1_0.length : Int)) = true := bne_iff_ne.mpr c6; have c6b2 : (l0_0.length == l1_0.length) = false := by first | simpa using c6 | (simp at c6 ⊢; omega)
   (first | rw [c6b0] | (simp only [i64_w, i32_w]; rw [c6b0]) | skip)
   have H' := aM H; clear H; have hn14 := nn NB151_152; have hz15 := bc3 BK151; have hz16 := bc3 BK152
   go_wp2
   go_meet
   case rel => exact ⟨_, (true), (by first | rfl | (simp; done) | (simp [*]; done)), H', ⟨by first | omega | exact Nat.le_refl _⟩, ⟨kl BK151⟩, ⟨kl BK152⟩, ⟨bl⟩⟩
 case rest =>
  clear HC3; (try clear c6); (try clear c6b0); (try clear c6b1); (try clear c6b2); (try clear c7); (try clear c7b0); (try clear c7b1); (try clear c7b2); (try clear hz10); (try clear hz12); (try clear hz13); (try clear hz15); (try clear hz16); (try clear hz9); obtain ⟨kq, x32_2, rfl, HA, HJ2, BK151, BK152, HB⟩ := hcut
  cases kq with
  | zero => exact absurd HA.out (by simp [mapmakerref14_Same.j0])
  | succ kj2 =>
   have H := HA.out; clear HA; simp only [mapmakerref14_Same.j0] at H
   by_cases c17 : x32_2 = true
   ·subst c17; have H1 : (some false) = some r := by rw [if_pos rfl] at H; exact H
    clear H; have H := H1; clear H1; obtain rfl := Option.some.inj H
    go_wp2
    go_ret; exact ⟨by first | rfl | (simp [errW_none, errW_some] <;> rfl) | (simp [*, errW_none, errW_some] <;> rfl), bl⟩
   ·replace c17 := Bool.eq_false_iff.mpr c17; subst c17; have H1 : (mapmakerref14_Same.l0 kj2 0 l0_0 l0_1 l0_2 l1_0 l1_1 l1_2) = some r := by rw [if_neg (show ¬ (false = true) by decide)] at H; exact H
    clear H; have H := H1; clear H1; have H' := aM H; clear H
    go_wp2
    go_loopg [5] kj2 (fun kq v5 w' => ∃ (x5_2 : Int), v5 = .int .i64 x5_2 ∧ Aside0 (mapmakerref14_Same.l0 kq x5_2 l0_0 l0_1 l0_2 l1_0 l1_1 l1_2 = some r) ∧ Aside0 (kq ≤ kj2) ∧ Aside0 (w'.heap[gb151]? = some (.cells #[(.slice A0_0 l0_0.length c0_0), (.slice A0_1 l0_1.length c0_1), (.slice A0_2 l0_2.length c0_2)] 26 (0, 0))) ∧ Aside0 (w'.heap[gb152]? = some (.cells #[(.slice A1_0 l1_0.length c1_0), (.slice A1_1 l1_1.length c1_1), (.slice A1_2 l1_2.length c1_2)] 26 (0, 0))) ∧ Aside0 (Below w.heap.size w w'))
    case atStart => exact ⟨(0), (by first | rfl | (simp; done) | (simp [*]; done)), H', ⟨Nat.le_refl _⟩, ⟨kl BK151⟩, ⟨kl BK152⟩, ⟨bl⟩⟩
    case round =>
     clear H'; (try clear c6); (try clear c6b0); (try clear c6b1); (try clear c6b2); (try clear c7); (try clear c7b0); (try clear c7b1); (try clear c7b2); (try clear c17); (try clear hz10); (try clear hz12); (try clear hz13); (try clear hz15); (try clear hz16); (try clear hz9); obtain ⟨x5_2, rfl, HA, HK2, BK151, BK152, HB⟩ := hrel
     cases gk with
     | zero => exact absurd HA.out (by simp [mapmakerref14_Same.l0])
     | succ k2 =>
      have H := HA.out; clear HA; simp only [mapmakerref14_Same.l0] at H
      by_cases c18 : x5_2 < (l0_0.length : Int)
      ·rw [if_pos c18] at H; have c18b0 : decide (x5_2 < (l0_0.length : Int)) = true := decide_eq_true c18; clear c18
       by_cases c19 : 0 ≤ x5_2
       ·rw [if_pos c19] at H; have c19b0 : decide (0 ≤ x5_2) = true := decide_eq_true c19; clear c19
        by_cases c20 : x5_2 < (l1_0.length : Int)
        ·rw [if_pos c20] at H; have c20b0 : decide (x5_2 < (l1_0.length : Int)) = true := decide_eq_true c20; clear c20; replace H := Option.bind_eq_some_iff.mp H; obtain ⟨t155, A210, H⟩ := H; (try dsimp only at H); have A21 := aM A210; clear A210; have HH_ := aM H; clear H; have hn23 := nn NB151_152; have hz24 := bc3 BK151
         try go_wp2
         replace BK151 := aM (kD BK151.out); replace BK152 := aM (kD BK152.out); replace HB := aM (bD HB.out); have p153 : 0 ≤ (x5_2 : Int) := oT; have q153 : x5_2 < (l0_0.length : Int) := oT; obtain ⟨ad153, A153_3, c153_3, e153, hx153_0, hx153_1, hx153_2, hx153_3, hl153_3, hi153_3⟩ := at_T37 HR0_0.out x5_2 p153 q153; have hw153_3 := hx153_3; have hw153_2 := hx153_2; have hw153_1 := hx153_1; have hw153_0 := hx153_0; cases e153
         replace hx153_0 := hs HB.out hx153_0; replace hx153_1 := hs HB.out hx153_1; replace hx153_2 := hs HB.out hx153_2; replace hx153_3 := hs HB.out hx153_3; have HR153_3 := aM hi153_3; have HC153_3 := aM hl153_3; clear hi153_3 hl153_3; replace p153 := eq_true p153; replace q153 := eq_true q153; have p154 : 0 ≤ (x5_2 : Int) := oT; have q154 : x5_2 < (l1_0.length : Int) := oT; obtain ⟨ad154, A154_3, c154_3, e154, hx154_0, hx154_1, hx154_2, hx154_3, hl154_3, hi154_3⟩ := at_T37 HR1_0.out x5_2 p154 q154; have hw154_3 := hx154_3; have hw154_2 := hx154_2; have hw154_1 := hx154_1; have hw154_0 := hx154_0; cases e154
         replace hx154_0 := hs HB.out hx154_0; replace hx154_1 := hs HB.out hx154_1; replace hx154_2 := hs HB.out hx154_2; replace hx154_3 := hs HB.out hx154_3; have HR154_3 := aM hi154_3; have HC154_3 := aM hl154_3; clear hi154_3 hl154_3; replace p154 := eq_true p154; replace q154 := eq_true q154; refine start_ (n := 12) (S := fun w' => w'.cell? ⟨gb151, 0, none⟩ = some (.slice (some ad153) l0_0.length c0_0) ∧ w'.cell? ⟨gb151, 1, none⟩ = some (.slice A0_1 l0_1.length c0_1) ∧ w'.cell? ⟨gb151, 2, none⟩ = some (.slice A0_2 l0_2.length c0_2) ∧ w'.cell? ⟨gb152, 0, none⟩ = some (.slice (some ad154) l1_0.length c1_0) ∧ w'.cell? ⟨gb152, 1, none⟩ = some (.slice A1_1 l1_1.length c1_1) ∧ w'.cell? ⟨gb152, 2, none⟩ = some (.slice A1_2 l1_2.length c1_2) ∧ w'.cell? (ad153.add ((x5_2).toNat * 4)) = some (.int .i64 ((rd_T37 l0_0 x5_2).f0)) ∧ w'.cell? ⟨(ad153.add ((x5_2).toNat * 4)).block, (ad153.add ((x5_2).toNat * 4)).off + 1, none⟩ = some (.int .i64 ((rd_T37 l0_0 x5_2).f1.f0)) ∧ w'.cell? ⟨(ad153.add ((x5_2).toNat * 4)).block, (ad153.add ((x5_2).toNat * 4)).off + 2, none⟩ = some (.int .i64 ((rd_T37 l0_0 x5_2).f1.f1)) ∧ w'.cell? ⟨(ad153.add ((x5_2).toNat * 4)).block, (ad153.add ((x5_2).toNat * 4)).off + 3, none⟩ = some (.slice A153_3 ((rd_T37 l0_0 x5_2).f2).length c153_3) ∧ w'.cell? (ad154.add ((x5_2).toNat * 4)) = some (.int .i64 ((rd_T37 l1_0 x5_2).f0)) ∧ w'.cell? ⟨(ad154.add ((x5_2).toNat * 4)).block, (ad154.add ((x5_2).toNat * 4)).off + 1, none⟩ = some (.int .i64 ((rd_T37 l1_0 x5_2).f1.f0)) ∧ w'.cell? ⟨(ad154.add ((x5_2).toNat * 4)).block, (ad154.add ((x5_2).toNat * 4)).off + 2, none⟩ = some (.int .i64 ((rd_T37 l1_0 x5_2).f1.f1)) ∧ w'.cell? ⟨(ad154.add ((x5_2).toNat * 4)).block, (ad154.add ((x5_2).toNat * 4)).off + 3, none⟩ = some (.slice A154_3 ((rd_T37 l1_0 x5_2).f2).length c154_3)) (ds := []) #[false, false, false, false, false, false, false, false, false, false, false, false] (by kernel_rfl) rfl rfl ⟨(kC BK151.out 0).trans rfl, (kC BK151.out 1).trans rfl, (kC BK151.out 2).trans rfl, (kC BK152.out 0).trans rfl, (kC BK152.out 1).trans rfl, (kC BK152.out 2).trans rfl, ((HB.out.cell (World.block_lt_of_cell? w _ hw153_0)).trans hw153_0), ((HB.out.cell (World.block_lt_of_cell? w _ hw153_1)).trans hw153_1), ((HB.out.cell (World.block_lt_of_cell? w _ hw153_2)).trans hw153_2), ((HB.out.cell (World.block_lt_of_cell? w _ hw153_3)).trans hw153_3), ((HB.out.cell (World.block_lt_of_cell? w _ hw154_0)).trans hw154_0), ((HB.out.cell (World.block_lt_of_cell? w _ hw154_1)).trans hw154_1), ((HB.out.cell (World.block_lt_of_cell? w _ hw154_2)).trans hw154_2), ((HB.out.cell (World.block_lt_of_cell? w _ hw154_3)).trans hw154_3)⟩ (fun hHeld => ?_); refine with_tabW mapmakerref14_Same.tab6 mapmakerref14_Same.bits6 (fun HT_ HW_ => ?_); generalize wr.drew = w25 at BK151 BK152 HB HR153_3 HR154_3 hx153_0 hx153_1 hx153_2 hx153_3 hx154_0 hx154_1 hx154_2 hx154_3 hHeld ⊢; refine pu 0 40 (ba 12 1) ?_; refine pu 2 42 (ba 12 5) ?_; refine pu 5 45 (ba 12 37) ?_; refine pu 7 47 (ba 12 165) ?_; refine tk 1 41 (ba 12 167) ?_; refine pu 3 43 (ba 12 175) ?_; refine tk 4 44 (ba 12 191) ?_; refine tk 6 46 (ba 12 255) ?_; refine pu 8 48 (ba 12 511) ?_; refine tk 9 49 (ba 12 1023) ?_; refine one_ (i := 10) (N := some 50) (ba 12 2047) rfl rfl (one_of HT_.out (by kernel_rfl)) (by decide) (fun K hK => ?_); refine goes_ Tryz.func36 (by kernel_rfl) rfl #[.agg #[.int .i64 ((rd_T37 l0_0 x5_2).f0), .int .i64 ((rd_T37 l0_0 x5_2).f1.f0), .int .i64 ((rd_T37 l0_0 x5_2).f1.f1), .slice A153_3 ((rd_T37 l0_0 x5_2).f2).length c153_3], .agg #[.int .i64 ((rd_T37 l1_0 x5_2).f0), .int .i64 ((rd_T37 l1_0 x5_2).f1.f0), .int .i64 ((rd_T37 l1_0 x5_2).f1.f1), .slice A154_3 ((rd_T37 l1_0 x5_2).f2).length c154_3]] (by rfl) rfl rfl (by (try simp only [List.map_toArray, List.map_cons, List.map_nil]); first | done | rfl | (simp only [List.length_drop, List.length_take]; rfl)) ?_
         with_reducible refine (mapmakerref14_SameNode.calls k2 ((rd_T37 l0_0 x5_2).f0) ((rd_T37 l0_0 x5_2).f1.f0) ((rd_T37 l0_0 x5_2).f1.f1) _ _ ((rd_T37 l0_0 x5_2).f2) ((rd_T37 l1_0 x5_2).f0) ((rd_T37 l1_0 x5_2).f1.f0) ((rd_T37 l1_0 x5_2).f1.f1) _ _ ((rd_T37 l1_0 x5_2).f2) t155 _ ?side1 ?side2 ?side3 ?side4 A21.out).mono ?_
         (case side1 => exact cl HR153_3)
         (case side2 => exact HC153_3.out)
         (case side3 => exact cl HR154_3)
         (case side4 => exact HC154_3.out)
         rintro e w26 ⟨rfl, hb⟩; refine ⟨_, rfl, ?_⟩; replace BK151 := aM (kB (kl BK151) hb); replace BK152 := aM (kB (kl BK152) hb); replace HB := aM (bS (bl) hb)
         (try clear hb)
         (try clear hb2)
         (try clear hk)
         (try clear hi)
         refine hK.out _ _ ⟨(kC BK151.out 0).trans rfl, (kC BK151.out 1).trans rfl, (kC BK151.out 2).trans rfl, (kC BK152.out 0).trans rfl, (kC BK152.out 1).trans rfl, (kC BK152.out 2).trans rfl, ((HB.out.cell (World.block_lt_of_cell? w _ hw153_0)).trans hw153_0), ((HB.out.cell (World.block_lt_of_cell? w _ hw153_1)).trans hw153_1), ((HB.out.cell (World.block_lt_of_cell? w _ hw153_2)).trans hw153_2), ((HB.out.cell (World.block_lt_of_cell? w _ hw153_3)).trans hw153_3), ((HB.out.cell (World.block_lt_of_cell? w _ hw154_0)).trans hw154_0), ((HB.out.cell (World.block_lt_of_cell? w _ hw154_1)).trans hw154_1), ((HB.out.cell (World.block_lt_of_cell? w _ hw154_2)).trans hw154_2), ((HB.out.cell (World.block_lt_of_cell? w _ hw154_3)).trans hw154_3)⟩ (fun hHeld => ?_); clear hK K; refine norm_ (a' := ?_) ?_ ?_; rotate_left
         ·show Act.put _ (some 50) _ = _
          simp only [Act.put, sA, sB, sC, i64_w, i32_w]; rfl
         refine pu 11 51 (ba 12 4095) ?_; refine done_ (done_of HT_.out (by kernel_rfl)) ?_; have H := HH_.out; clear HH_
         by_cases c22 : t155 = true
         ·subst c22; have H1 : (mapmakerref14_Same.l0 k2 (wrap64 (x5_2 + 1)) l0_0 l0_1 l0_2 l1_0 l1_1 l1_2) = some r := by rw [if_pos rfl] at H; exact H
          clear H; have H := H1; clear H1; have H' := aM H; clear H
          try go_wp2
          go_roundg k2
          case measure => have := HJ2.out; have := HK2.out; omega
          case rel => exact ⟨(wrap64 (x5_2 + 1)), (by first | rfl | (simp; done) | (simp [*]; done)), H', ⟨by have := HJ2.out; have := HK2.out; omega⟩, ⟨kl BK151⟩, ⟨kl BK152⟩, ⟨bl⟩⟩
         ·replace c22 := Bool.eq_false_iff.mpr c22; subst c22; have H1 : (some false) = some r := by rw [if_neg (show ¬ (false = true) by decide)] at H; exact H
          clear H; have H := H1; clear H1; obtain rfl := Option.some.inj H
          try go_wp2
          go_ret; exact ⟨by first | rfl | (simp [errW_none, errW_some] <;> rfl) | (simp [*, errW_none, errW_some] <;> rfl), bl⟩
        ·rw [if_neg c20] at H; exact absurd H (by simp)
       ·rw [if_neg c19] at H; exact absurd H (by simp)
      ·rw [if_neg c18] at H; have c18b0 : decide (x5_2 < (l0_0.length : Int)) = false := decide_eq_false c18; clear c18; have H' := aM H; clear H; have hn31 := nn NB151_152; have hz32 := bc3 BK151
       go_wp2
       go_loopg [6] k2 (fun kq v6 w' => ∃ (x6_3 : Int), v6 = .int .i64 x6_3 ∧ Aside0 (mapmakerref14_Same.l1 kq x6_3 l0_0 l0_1 l0_2 l1_0 l1_1 l1_2 = some r) ∧ Aside0 (kq ≤ k2) ∧ Aside0 (w'.heap[gb151]? = some (.cells #[(.slice A0_0 l0_0.length c0_0), (.slice A0_1 l0_1.length c0_1), (.slice A0_2 l0_2.length c0_2)] 26 (0, 0))) ∧ Aside0 (w'.heap[gb152]? = some (.cells #[(.slice A1_0 l1_0.length c1_0), (.slice A1_1 l1_1.length c1_1), (.slice A1_2 l1_2.length c1_2)] 26 (0, 0))) ∧ Aside0 (Below w.heap.size w w'))
       case atStart => exact ⟨(0), (by first | rfl | (simp; done) | (simp [*]; done)), H', ⟨Nat.le_refl _⟩, ⟨kl BK151⟩, ⟨kl BK152⟩, ⟨bl⟩⟩
       case round =>
        clear H'; (try clear c6); (try clear c6b0); (try clear c6b1); (try clear c6b2); (try clear c7); (try clear c7b0); (try clear c7b1); (try clear c7b2); (try clear c17); (try clear c18); (try clear c18b0); (try clear c19); (try clear c19b0); (try clear c20); (try clear c20b0); (try clear c22); (try clear hz10); (try clear hz12); (try clear hz13); (try clear hz15); (try clear hz16); (try clear hz24); (try clear hz32); (try clear hz9); (try clear hx153_0); (try clear hx153_1); (try clear hx153_2); (try clear hx153_3); (try clear hx154_0); (try clear hx154_1); (try clear hx154_2); (try clear hx154_3); (try clear p153); (try clear p154); (try clear q153); (try clear q154); obtain ⟨x6_3, rfl, HA, HK3, BK151, BK152, HB⟩ := hrel
        cases gk with
        | zero => exact absurd HA.out (by simp [mapmakerref14_Same.l1])
        | succ k3 =>
         have H := HA.out; clear HA; simp only [mapmakerref14_Same.l1] at H
         by_cases c33 : x6_3 < (l0_1.length : Int)
         ·rw [if_pos c33] at H; have c33b0 : decide (x6_3 < (l0_1.length : Int)) = true := decide_eq_true c33; clear c33
          by_cases c34 : 0 ≤ x6_3
          ·rw [if_pos c34] at H; have c34b0 : decide (0 ≤ x6_3) = true := decide_eq_true c34; clear c34
           by_cases c35 : x6_3 < (l1_1.length : Int)
           ·rw [if_pos c35] at H; have c35b0 : decide (x6_3 < (l1_1.length : Int)) = true := decide_eq_true c35; clear c35; replace H := Option.bind_eq_some_iff.mp H; obtain ⟨t158, A360, H⟩ := H; (try dsimp only at H); have A36 := aM A360; clear A360; have HH_ := aM H; clear H; have hn38 := nn NB151_152; have hz39 := bc3 BK151
            try go_wp2
            replace BK151 := aM (kD BK151.out); replace BK152 := aM (kD BK152.out); replace HB := aM (bD HB.out); have p156 : 0 ≤ (x6_3 : Int) := oT; have q156 : x6_3 < (l0_1.length : Int) := oT; obtain ⟨ad156, A156_1, c156_1, A156_2, c156_2, e156, hx156_0, hx156_1, hx156_2, hl156_1, hi156_1, hl156_2, hi156_2⟩ := at_T40 HR0_1.out x6_3 p156 q156; have hw156_2 := hx156_2; have hw156_1 := hx156_1; have hw156_0 := hx156_0; cases e156
            replace hx156_0 := hs HB.out hx156_0; replace hx156_1 := hs HB.out hx156_1; replace hx156_2 := hs HB.out hx156_2; have HR156_1 := aM hi156_1; have HC156_1 := aM hl156_1; clear hi156_1 hl156_1; have HR156_2 := aM hi156_2; have HC156_2 := aM hl156_2; clear hi156_2 hl156_2; replace p156 := eq_true p156; replace q156 := eq_true q156; have p157 : 0 ≤ (x6_3 : Int) := oT; have q157 : x6_3 < (l1_1.length : Int) := oT; obtain ⟨ad157, A157_1, c157_1, A157_2, c157_2, e157, hx157_0, hx157_1, hx157_2, hl157_1, hi157_1, hl157_2, hi157_2⟩ := at_T40 HR1_1.out x6_3 p157 q157; have hw157_2 := hx157_2; have hw157_1 := hx157_1; have hw157_0 := hx157_0; cases e157
            replace hx157_0 := hs HB.out hx157_0; replace hx157_1 := hs HB.out hx157_1; replace hx157_2 := hs HB.out hx157_2; have HR157_1 := aM hi157_1; have HC157_1 := aM hl157_1; clear hi157_1 hl157_1; have HR157_2 := aM hi157_2; have HC157_2 := aM hl157_2; clear hi157_2 hl157_2; replace p157 := eq_true p157; replace q157 := eq_true q157; refine start_ (n := 12) (S := fun w' => w'.cell? ⟨gb151, 0, none⟩ = some (.slice A0_0 l0_0.length c0_0) ∧ w'.cell? ⟨gb151, 1, none⟩ = some (.slice (some ad156) l0_1.length c0_1) ∧ w'.cell? ⟨gb151, 2, none⟩ = some (.slice A0_2 l0_2.length c0_2) ∧ w'.cell? ⟨gb152, 0, none⟩ = some (.slice A1_0 l1_0.length c1_0) ∧ w'.cell? ⟨gb152, 1, none⟩ = some (.slice (some ad157) l1_1.length c1_1) ∧ w'.cell? ⟨gb152, 2, none⟩ = some (.slice A1_2 l1_2.length c1_2) ∧ w'.cell? (ad156.add ((x6_3).toNat * 3)) = some (.int .i64 ((rd_T40 l0_1 x6_3).f0)) ∧ w'.cell? ⟨(ad156.add ((x6_3).toNat * 3)).block, (ad156.add ((x6_3).toNat * 3)).off + 1, none⟩ = some (.slice A156_1 ((rd_T40 l0_1 x6_3).f1).length c156_1) ∧ w'.cell? ⟨(ad156.add ((x6_3).toNat * 3)).block, (ad156.add ((x6_3).toNat * 3)).off + 2, none⟩ = some (.slice A156_2 ((rd_T40 l0_1 x6_3).f2).length c156_2) ∧ w'.cell? (ad157.add ((x6_3).toNat * 3)) = some (.int .i64 ((rd_T40 l1_1 x6_3).f0)) ∧ w'.cell? ⟨(ad157.add ((x6_3).toNat * 3)).block, (ad157.add ((x6_3).toNat * 3)).off + 1, none⟩ = some (.slice A157_1 ((rd_T40 l1_1 x6_3).f1).length c157_1) ∧ w'.cell? ⟨(ad157.add ((x6_3).toNat * 3)).block, (ad157.add ((x6_3).toNat * 3)).off + 2, none⟩ = some (.slice A157_2 ((rd_T40 l1_1 x6_3).f2).length c157_2)) (ds := []) #[false, false, false, false, false, false, false, false, false, false, false, false] (by kernel_rfl) rfl rfl ⟨(kC BK151.out 0).trans rfl, (kC BK151.out 1).trans rfl, (kC BK151.out 2).trans rfl, (kC BK152.out 0).trans rfl, (kC BK152.out 1).trans rfl, (kC BK152.out 2).trans rfl, ((HB.out.cell (World.block_lt_of_cell? w _ hw156_0)).trans hw156_0), ((HB.out.cell (World.block_lt_of_cell? w _ hw156_1)).trans hw156_1), ((HB.out.cell (World.block_lt_of_cell? w _ hw156_2)).trans hw156_2), ((HB.out.cell (World.block_lt_of_cell? w _ hw157_0)).trans hw157_0), ((HB.out.cell (World.block_lt_of_cell? w _ hw157_1)).trans hw157_1), ((HB.out.cell (World.block_lt_of_cell? w _ hw157_2)).trans hw157_2)⟩ (fun hHeld => ?_); refine with_tabW mapmakerref14_Same.tab11 mapmakerref14_Same.bits11 (fun HT_ HW_ => ?_); generalize wr.drew = w40 at BK151 BK152 HB HR156_1 HR156_2 HR157_1 HR157_2 hx156_0 hx156_1 hx156_2 hx157_0 hx157_1 hx157_2 hHeld ⊢; refine pu 0 59 (ba 12 1) ?_; refine pu 2 61 (ba 12 5) ?_; refine pu 5 64 (ba 12 37) ?_; refine pu 7 66 (ba 12 165) ?_; refine tk 1 60 (ba 12 167) ?_; refine pu 3 62 (ba 12 175) ?_; refine tk 4 63 (ba 12 191) ?_; refine tk 6 65 (ba 12 255) ?_; refine pu 8 67 (ba 12 511) ?_; refine tk 9 68 (ba 12 1023) ?_; refine one_ (i := 10) (N := some 69) (ba 12 2047) rfl rfl (one_of HT_.out (by kernel_rfl)) (by decide) (fun K hK => ?_); refine goes_ Tryz.func37 (by kernel_rfl) rfl #[.agg #[.int .i64 ((rd_T40 l0_1 x6_3).f0), .slice A156_1 ((rd_T40 l0_1 x6_3).f1).length c156_1, .slice A156_2 ((rd_T40 l0_1 x6_3).f2).length c156_2], .agg #[.int .i64 ((rd_T40 l1_1 x6_3).f0), .slice A157_1 ((rd_T40 l1_1 x6_3).f1).length c157_1, .slice A157_2 ((rd_T40 l1_1 x6_3).f2).length c157_2]] (by rfl) rfl rfl (by (try simp only [List.map_toArray, List.map_cons, List.map_nil]); first | done | rfl | (simp only [List.length_drop, List.length_take]; rfl)) ?_
            with_reducible refine (mapmakerref14_SameWay.calls k3 ((rd_T40 l0_1 x6_3).f0) _ _ ((rd_T40 l0_1 x6_3).f1) _ _ ((rd_T40 l0_1 x6_3).f2) ((rd_T40 l1_1 x6_3).f0) _ _ ((rd_T40 l1_1 x6_3).f1) _ _ ((rd_T40 l1_1 x6_3).f2) t158 _ ?side1 ?side2 ?side3 ?side4 ?side5 ?side6 ?side7 ?side8 A36.out).mono ?_
            (case side1 => exact cl HR156_1)
            (case side2 => exact HC156_1.out)
            (case side3 => exact cl HR156_2)
            (case side4 => exact HC156_2.out)
            (case side5 => exact cl HR157_1)
            (case side6 => exact HC157_1.out)
            (case side7 => exact cl HR157_2)
            (case side8 => exact HC157_2.out)
            rintro e w41 ⟨rfl, hb⟩; refine ⟨_, rfl, ?_⟩; replace BK151 := aM (kB (kl BK151) hb); replace BK152 := aM (kB (kl BK152) hb); replace HB := aM (bS (bl) hb)
            (try clear hb)
            (try clear hb2)
            (try clear hk)
            (try clear hi)
            refine hK.out _ _ ⟨(kC BK151.out 0).trans rfl, (kC BK151.out 1).trans rfl, (kC BK151.out 2).trans rfl, (kC BK152.out 0).trans rfl, (kC BK152.out 1).trans rfl, (kC BK152.out 2).trans rfl, ((HB.out.cell (World.block_lt_of_cell? w _ hw156_0)).trans hw156_0), ((HB.out.cell (World.block_lt_of_cell? w _ hw156_1)).trans hw156_1), ((HB.out.cell (World.block_lt_of_cell? w _ hw156_2)).trans hw156_2), ((HB.out.cell (World.block_lt_of_cell? w _ hw157_0)).trans hw157_0), ((HB.out.cell (World.block_lt_of_cell? w _ hw157_1)).trans hw157_1), ((HB.out.cell (World.block_lt_of_cell? w _ hw157_2)).trans hw157_2)⟩ (fun hHeld => ?_); clear hK K; refine norm_ (a' := ?_) ?_ ?_; rotate_left
            ·show Act.put _ (some 69) _ = _
             simp only [Act.put, sA, sB, sC, i64_w, i32_w]; rfl
            refine pu 11 70 (ba 12 4095) ?_; refine done_ (done_of HT_.out (by kernel_rfl)) ?_; have H := HH_.out; clear HH_
            by_cases c37 : t158 = true
            ·subst c37; have H1 : (mapmakerref14_Same.l1 k3 (wrap64 (x6_3 + 1)) l0_0 l0_1 l0_2 l1_0 l1_1 l1_2) = some r := by rw [if_pos rfl] at H; exact H
             clear H; have H := H1; clear H1; have H' := aM H; clear H
             try go_wp2
             go_roundg k3
             case measure => have := HJ2.out; have := HK2.out; have := HK3.out; omega
             case rel => exact ⟨(wrap64 (x6_3 + 1)), (by first | rfl | (simp; done) | (simp [*]; done)), H', ⟨by have := HJ2.out; have := HK2.out; have := HK3.out; omega⟩, ⟨kl BK151⟩, ⟨kl BK152⟩, ⟨bl⟩⟩
            ·replace c37 := Bool.eq_false_iff.mpr c37; subst c37; have H1 : (some false) = some r := by rw [if_neg (show ¬ (false = true) by decide)] at H; exact H
             clear H; have H := H1; clear H1; obtain rfl := Option.some.inj H
             try go_wp2
             go_ret; exact ⟨by first | rfl | (simp [errW_none, errW_some] <;> rfl) | (simp [*, errW_none, errW_some] <;> rfl), bl⟩
           ·rw [if_neg c35] at H; exact absurd H (by simp)
          ·rw [if_neg c34] at H; exact absurd H (by simp)
         ·rw [if_neg c33] at H; have c33b0 : decide (x6_3 < (l0_1.length : Int)) = false := decide_eq_false c33; clear c33; have H' := aM H; clear H; have hn46 := nn NB151_152; have hz47 := bc3 BK151
          go_wp2
          go_loopg [7] k3 (fun kq v7 w' => ∃ (x7_4 : Int), v7 = .int .i64 x7_4 ∧ Aside0 (mapmakerref14_Same.l2 kq x7_4 l0_0 l0_1 l0_2 l1_0 l1_1 l1_2 = some r) ∧ Aside0 (kq ≤ k3) ∧ Aside0 (w'.heap[gb151]? = some (.cells #[(.slice A0_0 l0_0.length c0_0), (.slice A0_1 l0_1.length c0_1), (.slice A0_2 l0_2.length c0_2)] 26 (0, 0))) ∧ Aside0 (w'.heap[gb152]? = some (.cells #[(.slice A1_0 l1_0.length c1_0), (.slice A1_1 l1_1.length c1_1), (.slice A1_2 l1_2.length c1_2)] 26 (0, 0))) ∧ Aside0 (Below w.heap.size w w'))
          case atStart => exact ⟨(0), (by first | rfl | (simp; done) | (simp [*]; done)), H', ⟨Nat.le_refl _⟩, ⟨kl BK151⟩, ⟨kl BK152⟩, ⟨bl⟩⟩
          case round =>
           clear H'; (try clear c6); (try clear c6b0); (try clear c6b1); (try clear c6b2); (try clear c7); (try clear c7b0); (try clear c7b1); (try clear c7b2); (try clear c17); (try clear c18); (try clear c18b0); (try clear c19); (try clear c19b0); (try clear c20); (try clear c20b0); (try clear c22); (try clear c33); (try clear c33b0); (try clear c34); (try clear c34b0); (try clear c35); (try clear c35b0); (try clear c37); (try clear hz10); (try clear hz12); (try clear hz13); (try clear hz15); (try clear hz16); (try clear hz24); (try clear hz32); (try clear hz39); (try clear hz47); (try clear hz9); (try clear hx153_0); (try clear hx153_1); (try clear hx153_2); (try clear hx153_3); (try clear hx154_0); (try clear hx154_1); (try clear hx154_2); (try clear hx154_3); (try clear hx156_0); (try clear hx156_1); (try clear hx156_2); (try clear hx157_0); (try clear hx157_1); (try clear hx157_2); (try clear p153); (try clear p154); (try clear p156); (try clear p157); (try clear q153); (try clear q154); (try clear q156); (try clear q157); obtain ⟨x7_4, rfl, HA, HK4, BK151, BK152, HB⟩ := hrel
           cases gk with
           | zero => exact absurd HA.out (by simp [mapmakerref14_Same.l2])
           | succ k4 =>
            have H := HA.out; clear HA; simp only [mapmakerref14_Same.l2] at H
            by_cases c48 : x7_4 < (l0_2.length : Int)
            ·rw [if_pos c48] at H; have c48b0 : decide (x7_4 < (l0_2.length : Int)) = true := decide_eq_true c48; clear c48
             by_cases c49 : 0 ≤ x7_4
             ·rw [if_pos c49] at H; have c49b0 : decide (0 ≤ x7_4) = true := decide_eq_true c49; clear c49
              by_cases c50 : x7_4 < (l1_2.length : Int)
              ·rw [if_pos c50] at H; have c50b0 : decide (x7_4 < (l1_2.length : Int)) = true := decide_eq_true c50; clear c50; replace H := Option.bind_eq_some_iff.mp H; obtain ⟨t161, A510, H⟩ := H; (try dsimp only at H); have A51 := aM A510; clear A510; have HH_ := aM H; clear H; have hn53 := nn NB151_152; have hz54 := bc3 BK151
               try go_wp2
               replace BK151 := aM (kD BK151.out); replace BK152 := aM (kD BK152.out); replace HB := aM (bD HB.out); have p159 : 0 ≤ (x7_4 : Int) := oT; have q159 : x7_4 < (l0_2.length : Int) := oT; obtain ⟨ad159, A159_1, c159_1, A159_2, c159_2, e159, hx159_0, hx159_1, hx159_2, hl159_1, hi159_1, hl159_2, hi159_2⟩ := at_T43 HR0_2.out x7_4 p159 q159; have hw159_2 := hx159_2; have hw159_1 := hx159_1; have hw159_0 := hx159_0; cases e159
               replace hx159_0 := hs HB.out hx159_0; replace hx159_1 := hs HB.out hx159_1; replace hx159_2 := hs HB.out hx159_2; have HR159_1 := aM hi159_1; have HC159_1 := aM hl159_1; clear hi159_1 hl159_1; have HR159_2 := aM hi159_2; have HC159_2 := aM hl159_2; clear hi159_2 hl159_2; replace p159 := eq_true p159; replace q159 := eq_true q159; have p160 : 0 ≤ (x7_4 : Int) := oT; have q160 : x7_4 < (l1_2.length : Int) := oT; obtain ⟨ad160, A160_1, c160_1, A160_2, c160_2, e160, hx160_0, hx160_1, hx160_2, hl160_1, hi160_1, hl160_2, hi160_2⟩ := at_T43 HR1_2.out x7_4 p160 q160; have hw160_2 := hx160_2; have hw160_1 := hx160_1; have hw160_0 := hx160_0; cases e160
               replace hx160_0 := hs HB.out hx160_0; replace hx160_1 := hs HB.out hx160_1; replace hx160_2 := hs HB.out hx160_2; have HR160_1 := aM hi160_1; have HC160_1 := aM hl160_1; clear hi160_1 hl160_1; have HR160_2 := aM hi160_2; have HC160_2 := aM hl160_2; clear hi160_2 hl160_2; replace p160 := eq_true p160; replace q160 := eq_true q160; refine start_ (n := 12) (S := fun w' => w'.cell? ⟨gb151, 0, none⟩ = some (.slice A0_0 l0_0.length c0_0) ∧ w'.cell? ⟨gb151, 1, none⟩ = some (.slice A0_1 l0_1.length c0_1) ∧ w'.cell? ⟨gb151, 2, none⟩ = some (.slice (some ad159) l0_2.length c0_2) ∧ w'.cell? ⟨gb152, 0, none⟩ = some (.slice A1_0 l1_0.length c1_0) ∧ w'.cell? ⟨gb152, 1, none⟩ = some (.slice A1_1 l1_1.length c1_1) ∧ w'.cell? ⟨gb152, 2, none⟩ = some (.slice (some ad160) l1_2.length c1_2) ∧ w'.cell? (ad159.add ((x7_4).toNat * 3)) = some (.int .i64 ((rd_T43 l0_2 x7_4).f0)) ∧ w'.cell? ⟨(ad159.add ((x7_4).toNat * 3)).block, (ad159.add ((x7_4).toNat * 3)).off + 1, none⟩ = some (.slice A159_1 ((rd_T43 l0_2 x7_4).f1).length c159_1) ∧ w'.cell? ⟨(ad159.add ((x7_4).toNat * 3)).block, (ad159.add ((x7_4).toNat * 3)).off + 2, none⟩ = some (.slice A159_2 ((rd_T43 l0_2 x7_4).f2).length c159_2) ∧ w'.cell? (ad160.add ((x7_4).toNat * 3)) = some (.int .i64 ((rd_T43 l1_2 x7_4).f0)) ∧ w'.cell? ⟨(ad160.add ((x7_4).toNat * 3)).block, (ad160.add ((x7_4).toNat * 3)).off + 1, none⟩ = some (.slice A160_1 ((rd_T43 l1_2 x7_4).f1).length c160_1) ∧ w'.cell? ⟨(ad160.add ((x7_4).toNat * 3)).block, (ad160.add ((x7_4).toNat * 3)).off + 2, none⟩ = some (.slice A160_2 ((rd_T43 l1_2 x7_4).f2).length c160_2)) (ds := []) #[false, false, false, false, false, false, false, false, false, false, false, false] (by kernel_rfl) rfl rfl ⟨(kC BK151.out 0).trans rfl, (kC BK151.out 1).trans rfl, (kC BK151.out 2).trans rfl, (kC BK152.out 0).trans rfl, (kC BK152.out 1).trans rfl, (kC BK152.out 2).trans rfl, ((HB.out.cell (World.block_lt_of_cell? w _ hw159_0)).trans hw159_0), ((HB.out.cell (World.block_lt_of_cell? w _ hw159_1)).trans hw159_1), ((HB.out.cell (World.block_lt_of_cell? w _ hw159_2)).trans hw159_2), ((HB.out.cell (World.block_lt_of_cell? w _ hw160_0)).trans hw160_0), ((HB.out.cell (World.block_lt_of_cell? w _ hw160_1)).trans hw160_1), ((HB.out.cell (World.block_lt_of_cell? w _ hw160_2)).trans hw160_2)⟩ (fun hHeld => ?_); refine with_tabW mapmakerref14_Same.tab16 mapmakerref14_Same.bits16 (fun HT_ HW_ => ?_); generalize wr.drew = w55 at BK151 BK152 HB HR159_1 HR159_2 HR160_1 HR160_2 hx159_0 hx159_1 hx159_2 hx160_0 hx160_1 hx160_2 hHeld ⊢; refine pu 0 78 (ba 12 1) ?_; refine pu 2 80 (ba 12 5) ?_; refine pu 5 83 (ba 12 37) ?_; refine pu 7 85 (ba 12 165) ?_; refine tk 1 79 (ba 12 167) ?_; refine pu 3 81 (ba 12 175) ?_; refine tk 4 82 (ba 12 191) ?_; refine tk 6 84 (ba 12 255) ?_; refine pu 8 86 (ba 12 511) ?_; refine tk 9 87 (ba 12 1023) ?_; refine one_ (i := 10) (N := some 88) (ba 12 2047) rfl rfl (one_of HT_.out (by kernel_rfl)) (by decide) (fun K hK => ?_); refine goes_ Tryz.func38 (by kernel_rfl) rfl #[.agg #[.int .i64 ((rd_T43 l0_2 x7_4).f0), .slice A159_1 ((rd_T43 l0_2 x7_4).f1).length c159_1, .slice A159_2 ((rd_T43 l0_2 x7_4).f2).length c159_2], .agg #[.int .i64 ((rd_T43 l1_2 x7_4).f0), .slice A160_1 ((rd_T43 l1_2 x7_4).f1).length c160_1, .slice A160_2 ((rd_T43 l1_2 x7_4).f2).length c160_2]] (by rfl) rfl rfl (by (try simp only [List.map_toArray, List.map_cons, List.map_nil]); first | done | rfl | (simp only [List.length_drop, List.length_take]; rfl)) ?_
               with_reducible refine (mapmakerref14_SameRel.calls k4 ((rd_T43 l0_2 x7_4).f0) _ _ ((rd_T43 l0_2 x7_4).f1) _ _ ((rd_T43 l0_2 x7_4).f2) ((rd_T43 l1_2 x7_4).f0) _ _ ((rd_T43 l1_2 x7_4).f1) _ _ ((rd_T43 l1_2 x7_4).f2) t161 _ ?side1 ?side2 ?side3 ?side4 ?side5 ?side6 ?side7 ?side8 A51.out).mono ?_
               (case side1 => exact cl HR159_1)
               (case side2 => exact HC159_1.out)
               (case side3 => exact cl HR159_2)
               (case side4 => exact HC159_2.out)
               (case side5 => exact cl HR160_1)
               (case side6 => exact HC160_1.out)
               (case side7 => exact cl HR160_2)
               (case side8 => exact HC160_2.out)
               rintro e w56 ⟨rfl, hb⟩; refine ⟨_, rfl, ?_⟩; replace BK151 := aM (kB (kl BK151) hb); replace BK152 := aM (kB (kl BK152) hb); replace HB := aM (bS (bl) hb)
               (try clear hb)
               (try clear hb2)
               (try clear hk)
               (try clear hi)
               refine hK.out _ _ ⟨(kC BK151.out 0).trans rfl, (kC BK151.out 1).trans rfl, (kC BK151.out 2).trans rfl, (kC BK152.out 0).trans rfl, (kC BK152.out 1).trans rfl, (kC BK152.out 2).trans rfl, ((HB.out.cell (World.block_lt_of_cell? w _ hw159_0)).trans hw159_0), ((HB.out.cell (World.block_lt_of_cell? w _ hw159_1)).trans hw159_1), ((HB.out.cell (World.block_lt_of_cell? w _ hw159_2)).trans hw159_2), ((HB.out.cell (World.block_lt_of_cell? w _ hw160_0)).trans hw160_0), ((HB.out.cell (World.block_lt_of_cell? w _ hw160_1)).trans hw160_1), ((HB.out.cell (World.block_lt_of_cell? w _ hw160_2)).trans hw160_2)⟩ (fun hHeld => ?_); clear hK K; refine norm_ (a' := ?_) ?_ ?_; rotate_left
               ·show Act.put _ (some 88) _ = _
                simp only [Act.put, sA, sB, sC, i64_w, i32_w]; rfl
               refine pu 11 89 (ba 12 4095) ?_; refine done_ (done_of HT_.out (by kernel_rfl)) ?_; have H := HH_.out; clear HH_
               by_cases c52 : t161 = true
               ·subst c52; have H1 : (mapmakerref14_Same.l2 k4 (wrap64 (x7_4 + 1)) l0_0 l0_1 l0_2 l1_0 l1_1 l1_2) = some r := by rw [if_pos rfl] at H; exact H
                clear H; have H := H1; clear H1; have H' := aM H; clear H
                try go_wp2
                go_roundg k4
                case measure => have := HJ2.out; have := HK2.out; have := HK3.out; have := HK4.out; omega
                case rel => exact ⟨(wrap64 (x7_4 + 1)), (by first | rfl | (simp; done) | (simp [*]; done)), H', ⟨by have := HJ2.out; have := HK2.out; have := HK3.out; have := HK4.out; omega⟩, ⟨kl BK151⟩, ⟨kl BK152⟩, ⟨bl⟩⟩
               ·replace c52 := Bool.eq_false_iff.mpr c52; subst c52; have H1 : (some false) = some r := by rw [if_neg (show ¬ (false = true) by decide)] at H; exact H
                clear H; have H := H1; clear H1; obtain rfl := Option.some.inj H
                try go_wp2
                go_ret; exact ⟨by first | rfl | (simp [errW_none, errW_some] <;> rfl) | (simp [*, errW_none, errW_some] <;> rfl), bl⟩
              ·rw [if_neg c50] at H; exact absurd H (by simp)
             ·rw [if_neg c49] at H; exact absurd H (by simp)
            ·rw [if_neg c48] at H; have c48b0 : decide (x7_4 < (l0_2.length : Int)) = false := decide_eq_false c48; clear c48; obtain rfl := Option.some.inj H; have hn61 := nn NB151_152; have hz62 := bc3 BK151
             go_wp2
             go_ret; exact ⟨by first | rfl | (simp [errW_none, errW_some] <;> rfl) | (simp [*, errW_none, errW_some] <;> rfl), bl⟩
end Go.Proofs.YtijoaohckgbneaaGreat.PAll
