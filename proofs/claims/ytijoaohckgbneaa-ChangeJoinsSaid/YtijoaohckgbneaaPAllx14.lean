-- out of a driver of this session's prover over the kit's print: Lean checks it
import Derived.Test.YtijoaohckgbneaaPAllx0
import Derived.Test.YtijoaohckgbneaaPAllx12
import Derived.Test.YtijoaohckgbneaaPAllx13
namespace Go.Proofs.Ytijoaohckgbneaa.PAll
open Go.Proofs.YtijoaohckgbneaaG Go.Shelf Go.Lib
open Go.RowKit Go.Proofs.YtijoaohckgbneaaW.PrintWords Go.Proofs.YtijoaohckgbneaaW.PrintLast Go.Proofs.YtijoaohckgbneaaW.PrintMore
attribute [local go_sem] max2_int min2_int max_two min_two max_three min_three max_four min_four   -- for this text's walks alone
set_option linter.unusedVariables false
set_option linter.unusedSimpArgs false
mutual
def mapmakerref14_Same.j0 : Nat → Bool → List (S42) → List (S45) → List (S48) → List (S42) → List (S45) → List (S48) → Option (Bool)
 | 0, _, _, _, _, _, _, _ => none
 | k + 1, x32, x165000, x165001, x165002, x166000, x166001, x166002 => if x32 = true then (some false) else (mapmakerref14_Same.l0 k 0 x165000 x165001 x165002 x166000 x166001 x166002)
def mapmakerref14_Same.l0 : Nat → Int → List (S42) → List (S45) → List (S48) → List (S42) → List (S45) → List (S48) → Option (Bool)
 | 0, _, _, _, _, _, _, _ => none
 | k + 1, x5, x165000, x165001, x165002, x166000, x166001, x166002 => if x5 < (x165000.length : Int) then (if 0 ≤ x5 then (if x5 < (x166000.length : Int) then ((mapmakerref14_SameNode.f k ((rd_T42 x165000 x5).f0) ((rd_T42 x165000 x5).f1.f0) ((rd_T42 x165000 x5).f1.f1) ((rd_T42 x165000 x5).f2) ((rd_T42 x166000 x5).f0) ((rd_T42 x166000 x5).f1.f0) ((rd_T42 x166000 x5).f1.f1) ((rd_T42 x166000 x5).f2)).bind fun t168 => (if t168 = true then (mapmakerref14_Same.l0 k (wrap64 (x5 + 1)) x165000 x165001 x165002 x166000 x166001 x166002) else (some false))) else (none)) else (none)) else (mapmakerref14_Same.l1 k 0 x165000 x165001 x165002 x166000 x166001 x166002)
def mapmakerref14_Same.l1 : Nat → Int → List (S42) → List (S45) → List (S48) → List (S42) → List (S45) → List (S48) → Option (Bool)
 | 0, _, _, _, _, _, _, _ => none
 | k + 1, x6, x165000, x165001, x165002, x166000, x166001, x166002 => if x6 < (x165001.length : Int) then (if 0 ≤ x6 then (if x6 < (x166001.length : Int) then ((mapmakerref14_SameWay.f k ((rd_T45 x165001 x6).f0) ((rd_T45 x165001 x6).f1) ((rd_T45 x165001 x6).f2) ((rd_T45 x166001 x6).f0) ((rd_T45 x166001 x6).f1) ((rd_T45 x166001 x6).f2)).bind fun t171 => (if t171 = true then (mapmakerref14_Same.l1 k (wrap64 (x6 + 1)) x165000 x165001 x165002 x166000 x166001 x166002) else (some false))) else (none)) else (none)) else (mapmakerref14_Same.l2 k 0 x165000 x165001 x165002 x166000 x166001 x166002)
def mapmakerref14_Same.l2 : Nat → Int → List (S42) → List (S45) → List (S48) → List (S42) → List (S45) → List (S48) → Option (Bool)
 | 0, _, _, _, _, _, _, _ => none
 | k + 1, x7, x165000, x165001, x165002, x166000, x166001, x166002 => if x7 < (x165002.length : Int) then (if 0 ≤ x7 then (if x7 < (x166002.length : Int) then ((mapmakerref14_SameRel.f k ((rd_T48 x165002 x7).f0) ((rd_T48 x165002 x7).f1) ((rd_T48 x165002 x7).f2) ((rd_T48 x166002 x7).f0) ((rd_T48 x166002 x7).f1) ((rd_T48 x166002 x7).f2)).bind fun t174 => (if t174 = true then (mapmakerref14_Same.l2 k (wrap64 (x7 + 1)) x165000 x165001 x165002 x166000 x166001 x166002) else (some false))) else (none)) else (none)) else (some true)
end
def mapmakerref14_Same.f (k : Nat) (l0_0 : List (S42)) (l0_1 : List (S45)) (l0_2 : List (S48)) (l1_0 : List (S42)) (l1_1 : List (S45)) (l1_2 : List (S48)) : Option (Bool) := if (l0_0.length : Int) = (l1_0.length : Int) then (if (l0_1.length : Int) = (l1_1.length : Int) then (mapmakerref14_Same.j0 k ((l0_2.length : Int) != (l1_2.length : Int)) l0_0 l0_1 l0_2 l1_0 l1_1 l1_2) else (mapmakerref14_Same.j0 k true l0_0 l0_1 l0_2 l1_0 l1_1 l1_2)) else (mapmakerref14_Same.j0 k true l0_0 l0_1 l0_2 l1_0 l1_1 l1_2)
theorem mapmakerref14_Same.mono_l : ∀ k, (∀ y0 y1 y2 y3 y4 y5 y6, LeO (mapmakerref14_Same.j0 k y0 y1 y2 y3 y4 y5 y6) (mapmakerref14_Same.j0 (k + 1) y0 y1 y2 y3 y4 y5 y6)) ∧ (∀ y0 y1 y2 y3 y4 y5 y6, LeO (mapmakerref14_Same.l0 k y0 y1 y2 y3 y4 y5 y6) (mapmakerref14_Same.l0 (k + 1) y0 y1 y2 y3 y4 y5 y6)) ∧ (∀ y0 y1 y2 y3 y4 y5 y6, LeO (mapmakerref14_Same.l1 k y0 y1 y2 y3 y4 y5 y6) (mapmakerref14_Same.l1 (k + 1) y0 y1 y2 y3 y4 y5 y6)) ∧ (∀ y0 y1 y2 y3 y4 y5 y6, LeO (mapmakerref14_Same.l2 k y0 y1 y2 y3 y4 y5 y6) (mapmakerref14_Same.l2 (k + 1) y0 y1 y2 y3 y4 y5 y6))
 | 0 => ⟨fun _ _ _ _ _ _ _ r h => by simp [mapmakerref14_Same.j0] at h, fun _ _ _ _ _ _ _ r h => by simp [mapmakerref14_Same.l0] at h, fun _ _ _ _ _ _ _ r h => by simp [mapmakerref14_Same.l1] at h, fun _ _ _ _ _ _ _ r h => by simp [mapmakerref14_Same.l2] at h⟩
 | k + 1 => by
  obtain ⟨ih0, ih1, ih2, ih3⟩ := mapmakerref14_Same.mono_l k
  refine ⟨?_, ?_, ?_, ?_⟩
  ·intro y0 y1 y2 y3 y4 y5 y6
   unfold mapmakerref14_Same.j0
   repeat' first
   | (with_reducible exact ih0 _ _ _ _ _ _ _)
   | (with_reducible exact ih1 _ _ _ _ _ _ _)
   | (with_reducible exact ih2 _ _ _ _ _ _ _)
   | (with_reducible exact ih3 _ _ _ _ _ _ _)
   | (with_reducible exact mapmakerref14_SameNode.mono _ _ _ _ _ _ _ _ _)
   | (with_reducible exact mapmakerref14_SameRel.mono _ _ _ _ _ _ _)
   | (with_reducible exact mapmakerref14_SameWay.mono _ _ _ _ _ _ _)
   | (with_reducible exact LeO.refl _)
   | (with_reducible exact LeO.none _)
   | (with_reducible refine LeO.ite ?_ ?_)
   | (with_reducible refine LeO.bind ?_ (fun _ => ?_))
   | exact ih0 _ _ _ _ _ _ _
   | exact ih1 _ _ _ _ _ _ _
   | exact ih2 _ _ _ _ _ _ _
   | exact ih3 _ _ _ _ _ _ _
   | exact mapmakerref14_SameNode.mono _ _ _ _ _ _ _ _ _
   | exact mapmakerref14_SameRel.mono _ _ _ _ _ _ _
   | exact mapmakerref14_SameWay.mono _ _ _ _ _ _ _
   | exact LeO.none _
   | refine LeO.ite ?_ ?_
   | refine LeO.bind ?_ (fun _ => ?_)
  ·intro y0 y1 y2 y3 y4 y5 y6
   unfold mapmakerref14_Same.l0
   repeat' first
   | (with_reducible exact ih0 _ _ _ _ _ _ _)
   | (with_reducible exact ih1 _ _ _ _ _ _ _)
   | (with_reducible exact ih2 _ _ _ _ _ _ _)
   | (with_reducible exact ih3 _ _ _ _ _ _ _)
   | (with_reducible exact mapmakerref14_SameNode.mono _ _ _ _ _ _ _ _ _)
   | (with_reducible exact mapmakerref14_SameRel.mono _ _ _ _ _ _ _)
   | (with_reducible exact mapmakerref14_SameWay.mono _ _ _ _ _ _ _)
   | (with_reducible exact LeO.refl _)
   | (with_reducible exact LeO.none _)
   | (with_reducible refine LeO.ite ?_ ?_)
   | (with_reducible refine LeO.bind ?_ (fun _ => ?_))
   | exact ih0 _ _ _ _ _ _ _
   | exact ih1 _ _ _ _ _ _ _
   | exact ih2 _ _ _ _ _ _ _
   | exact ih3 _ _ _ _ _ _ _
   | exact mapmakerref14_SameNode.mono _ _ _ _ _ _ _ _ _
   | exact mapmakerref14_SameRel.mono _ _ _ _ _ _ _
   | exact mapmakerref14_SameWay.mono _ _ _ _ _ _ _
   | exact LeO.none _
   | refine LeO.ite ?_ ?_
   | refine LeO.bind ?_ (fun _ => ?_)
  ·intro y0 y1 y2 y3 y4 y5 y6
   unfold mapmakerref14_Same.l1
   repeat' first
   | (with_reducible exact ih0 _ _ _ _ _ _ _)
   | (with_reducible exact ih1 _ _ _ _ _ _ _)
   | (with_reducible exact ih2 _ _ _ _ _ _ _)
   | (with_reducible exact ih3 _ _ _ _ _ _ _)
   | (with_reducible exact mapmakerref14_SameNode.mono _ _ _ _ _ _ _ _ _)
   | (with_reducible exact mapmakerref14_SameRel.mono _ _ _ _ _ _ _)
   | (with_reducible exact mapmakerref14_SameWay.mono _ _ _ _ _ _ _)
   | (with_reducible exact LeO.refl _)
   | (with_reducible exact LeO.none _)
   | (with_reducible refine LeO.ite ?_ ?_)
   | (with_reducible refine LeO.bind ?_ (fun _ => ?_))
   | exact ih0 _ _ _ _ _ _ _
   | exact ih1 _ _ _ _ _ _ _
   | exact ih2 _ _ _ _ _ _ _
   | exact ih3 _ _ _ _ _ _ _
   | exact mapmakerref14_SameNode.mono _ _ _ _ _ _ _ _ _
   | exact mapmakerref14_SameRel.mono _ _ _ _ _ _ _
   | exact mapmakerref14_SameWay.mono _ _ _ _ _ _ _
   | exact LeO.none _
   | refine LeO.ite ?_ ?_
   | refine LeO.bind ?_ (fun _ => ?_)
  ·intro y0 y1 y2 y3 y4 y5 y6
   unfold mapmakerref14_Same.l2
   repeat' first
   | (with_reducible exact ih0 _ _ _ _ _ _ _)
   | (with_reducible exact ih1 _ _ _ _ _ _ _)
   | (with_reducible exact ih2 _ _ _ _ _ _ _)
   | (with_reducible exact ih3 _ _ _ _ _ _ _)
   | (with_reducible exact mapmakerref14_SameNode.mono _ _ _ _ _ _ _ _ _)
   | (with_reducible exact mapmakerref14_SameRel.mono _ _ _ _ _ _ _)
   | (with_reducible exact mapmakerref14_SameWay.mono _ _ _ _ _ _ _)
   | (with_reducible exact LeO.refl _)
   | (with_reducible exact LeO.none _)
   | (with_reducible refine LeO.ite ?_ ?_)
   | (with_reducible refine LeO.bind ?_ (fun _ => ?_))
   | exact ih0 _ _ _ _ _ _ _
   | exact ih1 _ _ _ _ _ _ _
   | exact ih2 _ _ _ _ _ _ _
   | exact ih3 _ _ _ _ _ _ _
   | exact mapmakerref14_SameNode.mono _ _ _ _ _ _ _ _ _
   | exact mapmakerref14_SameRel.mono _ _ _ _ _ _ _
   | exact mapmakerref14_SameWay.mono _ _ _ _ _ _ _
   | exact LeO.none _
   | refine LeO.ite ?_ ?_
   | refine LeO.bind ?_ (fun _ => ?_)
theorem mapmakerref14_Same.mono : ∀ a0 a1 a2 a3 a4 a5 k, LeO (mapmakerref14_Same.f k a0 a1 a2 a3 a4 a5) (mapmakerref14_Same.f (k + 1) a0 a1 a2 a3 a4 a5) := by
 intro a0 a1 a2 a3 a4 a5 k; obtain ⟨ih0, ih1, ih2, ih3⟩ := mapmakerref14_Same.mono_l k; unfold mapmakerref14_Same.f
 repeat' first
   | (with_reducible exact ih0 _ _ _ _ _ _ _)
   | (with_reducible exact ih1 _ _ _ _ _ _ _)
   | (with_reducible exact ih2 _ _ _ _ _ _ _)
   | (with_reducible exact ih3 _ _ _ _ _ _ _)
   | (with_reducible exact mapmakerref14_SameNode.mono _ _ _ _ _ _ _ _ _)
   | (with_reducible exact mapmakerref14_SameRel.mono _ _ _ _ _ _ _)
   | (with_reducible exact mapmakerref14_SameWay.mono _ _ _ _ _ _ _)
   | (with_reducible exact LeO.refl _)
   | (with_reducible exact LeO.none _)
   | (with_reducible refine LeO.ite ?_ ?_)
   | (with_reducible refine LeO.bind ?_ (fun _ => ?_))
   | exact ih0 _ _ _ _ _ _ _
   | exact ih1 _ _ _ _ _ _ _
   | exact ih2 _ _ _ _ _ _ _
   | exact ih3 _ _ _ _ _ _ _
   | exact mapmakerref14_SameNode.mono _ _ _ _ _ _ _ _ _
   | exact mapmakerref14_SameRel.mono _ _ _ _ _ _ _
   | exact mapmakerref14_SameWay.mono _ _ _ _ _ _ _
   | exact LeO.none _
   | refine LeO.ite ?_ ?_
   | refine LeO.bind ?_ (fun _ => ?_)
def mapmakerref14_Same.T6 : Bool × List (List Nat × List Nat) := (true, [([], []), ([0], [0]), ([], []), ([1, 2], [1, 2]), ([3], [3]), ([], []), ([5], [5]), ([], []), ([6, 7], [6, 7]), ([8], [8]), ([4, 9], [4, 9]), ([10], [10])])
def mapmakerref14_Same.B6 : List Nat := [0, 1, 0, 7, 15, 0, 32, 0, 224, 480, 1023, 2047]
theorem mapmakerref14_Same.tab6 : rtab .any (opsOf Try.f8 6) = mapmakerref14_Same.T6 := by kernel_rfl
theorem mapmakerref14_Same.bits6 : waitsOk mapmakerref14_Same.T6.2 mapmakerref14_Same.B6 = true := by kernel_rfl
def mapmakerref14_Same.T11 : Bool × List (List Nat × List Nat) := (true, [([], []), ([0], [0]), ([], []), ([1, 2], [1, 2]), ([3], [3]), ([], []), ([5], [5]), ([], []), ([6, 7], [6, 7]), ([8], [8]), ([4, 9], [4, 9]), ([10], [10])])
def mapmakerref14_Same.B11 : List Nat := [0, 1, 0, 7, 15, 0, 32, 0, 224, 480, 1023, 2047]
theorem mapmakerref14_Same.tab11 : rtab .any (opsOf Try.f8 11) = mapmakerref14_Same.T11 := by kernel_rfl
theorem mapmakerref14_Same.bits11 : waitsOk mapmakerref14_Same.T11.2 mapmakerref14_Same.B11 = true := by kernel_rfl
def mapmakerref14_Same.T16 : Bool × List (List Nat × List Nat) := (true, [([], []), ([0], [0]), ([], []), ([1, 2], [1, 2]), ([3], [3]), ([], []), ([5], [5]), ([], []), ([6, 7], [6, 7]), ([8], [8]), ([4, 9], [4, 9]), ([10], [10])])
def mapmakerref14_Same.B16 : List Nat := [0, 1, 0, 7, 15, 0, 32, 0, 224, 480, 1023, 2047]
theorem mapmakerref14_Same.tab16 : rtab .any (opsOf Try.f8 16) = mapmakerref14_Same.T16 := by kernel_rfl
theorem mapmakerref14_Same.bits16 : waitsOk mapmakerref14_Same.T16.2 mapmakerref14_Same.B16 = true := by kernel_rfl
set_option maxHeartbeats 8000000 in
set_option maxRecDepth 100000 in
theorem mapmakerref14_Same.calls (k : Nat) (A0_0 : Option Addr) (c0_0 : Nat) (l0_0 : List (S42)) (A0_1 : Option Addr) (c0_1 : Nat) (l0_1 : List (S45)) (A0_2 : Option Addr) (c0_2 : Nat) (l0_2 : List (S48)) (A1_0 : Option Addr) (c1_0 : Nat) (l1_0 : List (S42)) (A1_1 : Option Addr) (c1_1 : Nat) (l1_1 : List (S45)) (A1_2 : Option Addr) (c1_2 : Nat) (l1_2 : List (S48)) (r : Bool) (w : World) (hr0_0 : Kd.C k42 w A0_0 l0_0.length l0_0) (hc0_0 : l0_0.length ≤ c0_0) (hr0_1 : Kd.C k45 w A0_1 l0_1.length l0_1) (hc0_1 : l0_1.length ≤ c0_1) (hr0_2 : Kd.C k48 w A0_2 l0_2.length l0_2) (hc0_2 : l0_2.length ≤ c0_2) (hr1_0 : Kd.C k42 w A1_0 l1_0.length l1_0) (hc1_0 : l1_0.length ≤ c1_0) (hr1_1 : Kd.C k45 w A1_1 l1_1.length l1_1) (hc1_1 : l1_1.length ≤ c1_1) (hr1_2 : Kd.C k48 w A1_2 l1_2.length l1_2) (hc1_2 : l1_2.length ≤ c1_2) (h : mapmakerref14_Same.f k l0_0 l0_1 l0_2 l1_0 l1_1 l1_2 = some r) :
  Calls Try.prog 8 #[.agg #[.slice A0_0 l0_0.length c0_0, .slice A0_1 l0_1.length c0_1, .slice A0_2 l0_2.length c0_2], .agg #[.slice A1_0 l1_0.length c1_0, .slice A1_1 l1_1.length c1_1, .slice A1_2 l1_2.length c1_2]] w fun e w' => e = .returned (.bool r) ∧ Below w.heap.size w w' := by
 have hu26 := Try.underlying26; have hu42 := Try.underlying42; have hu45 := Try.underlying45; have hu48 := Try.underlying48; have HR0_0 := aM hr0_0; have HC0_0 := aM hc0_0; clear hr0_0 hc0_0; have HR0_1 := aM hr0_1; have HC0_1 := aM hc0_1; clear hr0_1 hc0_1; have HR0_2 := aM hr0_2; have HC0_2 := aM hc0_2; clear hr0_2 hc0_2; have HR1_0 := aM hr1_0; have HC1_0 := aM hc1_0; clear hr1_0 hc1_0; have HR1_1 := aM hr1_1; have HC1_1 := aM hc1_1; clear hr1_1 hc1_1; have HR1_2 := aM hr1_2; have HC1_2 := aM hc1_2; clear hr1_2 hc1_2; have HB := aM (Below.refl w.heap.size w); have H : (if (l0_0.length : Int) = (l1_0.length : Int) then (if (l0_1.length : Int) = (l1_1.length : Int) then (mapmakerref14_Same.j0 k ((l0_2.length : Int) != (l1_2.length : Int)) l0_0 l0_1 l0_2 l1_0 l1_1 l1_2) else (mapmakerref14_Same.j0 k true l0_0 l0_1 l0_2 l1_0 l1_1 l1_2)) else (mapmakerref14_Same.j0 k true l0_0 l0_1 l0_2 l1_0 l1_1 l1_2)) = some r := h; clear h; have HC3 := aM H; clear H; go_enter Try.func8, Try.ntmps8
 go_upto_region 1 with (first | ((with_reducible refine gate_dst (N := 2) rfl ?_); (try (refine gate_guard (by rfl) ?_; dsimp only)); refine bx (N := 2) (cs := #[.slice A0_0 l0_0.length c0_0, .slice A0_1 l0_1.length c0_1, .slice A0_2 l0_2.length c0_2]) (t := 26) ?_; intro gb164 hg w4 hbox hb; have BK164 := aM (hbox); have GE164 := aM (gw (w := w) hg); replace HB := aM (bS (bl) hb); clear hb hbox hg) | ((with_reducible refine gate_dst (N := 3) rfl ?_); (try (refine gate_guard (by rfl) ?_; dsimp only)); refine bx (N := 3) (cs := #[.slice A1_0 l1_0.length c1_0, .slice A1_1 l1_1.length c1_1, .slice A1_2 l1_2.length c1_2]) (t := 26) ?_; intro gb165 hg w5 hbox hb; have BK165 := aM (hbox); have GE165 := aM (gw (w := w) hg); obtain ⟨NB164_165, NB165_164⟩ := n2 BK164 hg; replace BK164 := aM (kB (kl BK164) hb); replace HB := aM (bS (bl) hb); clear hb hbox hg))
 (try simp only [Act.put, sA, sB, sC])
 go_cut [32] (fun v32 wc => ∃ (kq : Nat) (x32_2 : Bool), v32 = .bool x32_2 ∧ Aside0 (mapmakerref14_Same.j0 kq x32_2 l0_0 l0_1 l0_2 l1_0 l1_1 l1_2 = some r) ∧ Aside0 (kq ≤ k) ∧ Aside0 (wc.heap[gb164]? = some (.cells #[(.slice A0_0 l0_0.length c0_0), (.slice A0_1 l0_1.length c0_1), (.slice A0_2 l0_2.length c0_2)] 26 (0, 0))) ∧ Aside0 (wc.heap[gb165]? = some (.cells #[(.slice A1_0 l1_0.length c1_0), (.slice A1_1 l1_1.length c1_1), (.slice A1_2 l1_2.length c1_2)] 26 (0, 0))) ∧ Aside0 (Below w.heap.size w wc))
 case first =>
  have H := HC3.out; clear HC3
  by_cases c6 : (l0_0.length : Int) = (l1_0.length : Int)
  ·rw [if_pos c6] at H; have c6b0 : ((l0_0.length : Int) == (l1_0.length : Int)) = true := beq_iff_eq.mpr c6; have c6b1 : ((l0_0.length : Int) != (l1_0.length : Int)) = false := bne_eq_false_iff_eq.mpr c6; have c6b2 : (l0_0.length == l1_0.length) = true := by first | simpa using c6 | (simp at c6 ⊢; omega)
   clear c6
   (first | rw [c6b0] | (simp only [i64_w, i32_w]; rw [c6b0]) | skip)
   by_cases c7 : (l0_1.length : Int) = (l1_1.length : Int)
   ·rw [if_pos c7] at H; have c7b0 : ((l0_1.length : Int) == (l1_1.length : Int)) = true := beq_iff_eq.mpr c7; have c7b1 : ((l0_1.length : Int) != (l1_1.length : Int)) = false := bne_eq_false_iff_eq.mpr c7; have c7b2 : (l0_1.length == l1_1.length) = true := by first | simpa using c7 | (simp at c7 ⊢; omega)
    clear c7; have H' := aM H; clear H; have hn8 := nn NB164_165; have hz9 := bc3 BK164; have hz10 := bc3 BK165
    go_wp2
    go_meet
    case rel => exact ⟨_, (((l0_2.length : Int) != (l1_2.length : Int))), (by first | rfl | (simp; done) | (simp [*]; done)), H', ⟨by first | omega | exact Nat.le_refl _⟩, ⟨kl BK164⟩, ⟨kl BK165⟩, ⟨bl⟩⟩
   ·rw [if_neg c7] at H; have c7b0 : ((l0_1.length : Int) == (l1_1.length : Int)) = false := beq_eq_false_iff_ne.mpr c7; have c7b1 : ((l0_1.length : Int) != (l1_1.length : Int)) = true := bne_iff_ne.mpr c7; have c7b2 : (l0_1.length == l1_1.length) = false := by first | simpa using c7 | (simp at c7 ⊢; omega)
    have H' := aM H; clear H; have hn11 := nn NB164_165; have hz12 := bc3 BK164; have hz13 := bc3 BK165
    go_wp2
    go_meet
    case rel => exact ⟨_, (true), (by first | rfl | (simp; done) | (simp [*]; done)), H', ⟨by first | omega | exact Nat.le_refl _⟩, ⟨kl BK164⟩, ⟨kl BK165⟩, ⟨bl⟩⟩
  ·rw [if_neg c6] at H; have c6b0 : ((l0_0.length : Int) == (l1_0.length : Int)) = false := beq_eq_false_iff_ne.mpr c6; have c6b1 : ((l0_0.length : Int) != (l1_0.length : Int)) = true := bne_iff_ne.mpr c6; have c6b2 : (l0_0.length == l1_0.length) = false := by first | simpa using c6 | (simp at c6 ⊢; omega)
   (first | rw [c6b0] | (simp only [i64_w, i32_w]; rw [c6b0]) | skip)
   have H' := aM H; clear H; have hn14 := nn NB164_165; have hz15 := bc3 BK164; have hz16 := bc3 BK165
   go_wp2
   go_meet
   case rel => exact ⟨_, (true), (by first | rfl | (simp; done) | (simp [*]; done)), H', ⟨by first | omega | exact Nat.le_refl _⟩, ⟨kl BK164⟩, ⟨kl BK165⟩, ⟨bl⟩⟩
 case rest =>
  clear HC3; (try clear c6); (try clear c6b0); (try clear c6b1); (try clear c6b2); (try clear c7); (try clear c7b0); (try clear c7b1); (try clear c7b2); (try clear hz10); (try clear hz12); (try clear hz13); (try clear hz15); (try clear hz16); (try clear hz9); obtain ⟨kq, x32_2, rfl, HA, HJ2, BK164, BK165, HB⟩ := hcut
  cases kq with
  | zero => exact absurd HA.out (by simp [mapmakerref14_Same.j0])
  | succ kj2 =>
   have H := HA.out; clear HA; simp only [mapmakerref14_Same.j0] at H
   by_cases c17 : x32_2 = true
   ·subst c17; have H1 : (some false) = some r := by rw [if_pos rfl] at H; exact H
    clear H; have H := H1; clear H1; obtain rfl := Option.some.inj H
    go_wp2
    go_ret; exact ⟨by first | rfl | (simp [errW_none, errW_some] <;> rfl) | (simp [*, errW_none, errW_some] <;> rfl), bl⟩
   ·replace c17 := Bool.eq_false_iff.mpr c17; subst c17; have H1 : (mapmakerref14_Same.l0 kj2 0 l0_0 l0_1 l0_2 l1_0 l1_1 l1_2) = some r := by rw [if_neg (show ¬ (false = true) by decide)] at H; exact H
    clear H; have H := H1; clear H1; have H' := aM H; clear H
    go_wp2
    go_loopg [5] kj2 (fun kq v5 w' => ∃ (x5_2 : Int), v5 = .int .i64 x5_2 ∧ Aside0 (mapmakerref14_Same.l0 kq x5_2 l0_0 l0_1 l0_2 l1_0 l1_1 l1_2 = some r) ∧ Aside0 (kq ≤ kj2) ∧ Aside0 (w'.heap[gb164]? = some (.cells #[(.slice A0_0 l0_0.length c0_0), (.slice A0_1 l0_1.length c0_1), (.slice A0_2 l0_2.length c0_2)] 26 (0, 0))) ∧ Aside0 (w'.heap[gb165]? = some (.cells #[(.slice A1_0 l1_0.length c1_0), (.slice A1_1 l1_1.length c1_1), (.slice A1_2 l1_2.length c1_2)] 26 (0, 0))) ∧ Aside0 (Below w.heap.size w w'))
    case atStart => exact ⟨(0), (by first | rfl | (simp; done) | (simp [*]; done)), H', ⟨Nat.le_refl _⟩, ⟨kl BK164⟩, ⟨kl BK165⟩, ⟨bl⟩⟩
    case round =>
     clear H'; (try clear c6); (try clear c6b0); (try clear c6b1); (try clear c6b2); (try clear c7); (try clear c7b0); (try clear c7b1); (try clear c7b2); (try clear c17); (try clear hz10); (try clear hz12); (try clear hz13); (try clear hz15); (try clear hz16); (try clear hz9); obtain ⟨x5_2, rfl, HA, HK2, BK164, BK165, HB⟩ := hrel
     cases gk with
     | zero => exact absurd HA.out (by simp [mapmakerref14_Same.l0])
     | succ k2 =>
      have H := HA.out; clear HA; simp only [mapmakerref14_Same.l0] at H
      by_cases c18 : x5_2 < (l0_0.length : Int)
      ·rw [if_pos c18] at H; have c18b0 : decide (x5_2 < (l0_0.length : Int)) = true := decide_eq_true c18; clear c18
       by_cases c19 : 0 ≤ x5_2
       ·rw [if_pos c19] at H; have c19b0 : decide (0 ≤ x5_2) = true := decide_eq_true c19; clear c19
        by_cases c20 : x5_2 < (l1_0.length : Int)
        ·rw [if_pos c20] at H; have c20b0 : decide (x5_2 < (l1_0.length : Int)) = true := decide_eq_true c20; clear c20; replace H := Option.bind_eq_some_iff.mp H; obtain ⟨t168, A210, H⟩ := H; (try dsimp only at H); have A21 := aM A210; clear A210; have HH_ := aM H; clear H; have hn23 := nn NB164_165; have hz24 := bc3 BK164
         try go_wp2
         replace BK164 := aM (kD BK164.out); replace BK165 := aM (kD BK165.out); replace HB := aM (bD HB.out); have p166 : 0 ≤ (x5_2 : Int) := oT; have q166 : x5_2 < (l0_0.length : Int) := oT; obtain ⟨ad166, A166_3, c166_3, e166, hx166_0, hx166_1, hx166_2, hx166_3, hl166_3, hi166_3⟩ := at_T42 HR0_0.out x5_2 p166 q166; have hw166_3 := hx166_3; have hw166_2 := hx166_2; have hw166_1 := hx166_1; have hw166_0 := hx166_0; cases e166
         replace hx166_0 := hs HB.out hx166_0; replace hx166_1 := hs HB.out hx166_1; replace hx166_2 := hs HB.out hx166_2; replace hx166_3 := hs HB.out hx166_3; have HR166_3 := aM hi166_3; have HC166_3 := aM hl166_3; clear hi166_3 hl166_3; replace p166 := eq_true p166; replace q166 := eq_true q166; have p167 : 0 ≤ (x5_2 : Int) := oT; have q167 : x5_2 < (l1_0.length : Int) := oT; obtain ⟨ad167, A167_3, c167_3, e167, hx167_0, hx167_1, hx167_2, hx167_3, hl167_3, hi167_3⟩ := at_T42 HR1_0.out x5_2 p167 q167; have hw167_3 := hx167_3; have hw167_2 := hx167_2; have hw167_1 := hx167_1; have hw167_0 := hx167_0; cases e167
         replace hx167_0 := hs HB.out hx167_0; replace hx167_1 := hs HB.out hx167_1; replace hx167_2 := hs HB.out hx167_2; replace hx167_3 := hs HB.out hx167_3; have HR167_3 := aM hi167_3; have HC167_3 := aM hl167_3; clear hi167_3 hl167_3; replace p167 := eq_true p167; replace q167 := eq_true q167; refine start_ (n := 12) (S := fun w' => w'.cell? ⟨gb164, 0, none⟩ = some (.slice (some ad166) l0_0.length c0_0) ∧ w'.cell? ⟨gb164, 1, none⟩ = some (.slice A0_1 l0_1.length c0_1) ∧ w'.cell? ⟨gb164, 2, none⟩ = some (.slice A0_2 l0_2.length c0_2) ∧ w'.cell? ⟨gb165, 0, none⟩ = some (.slice (some ad167) l1_0.length c1_0) ∧ w'.cell? ⟨gb165, 1, none⟩ = some (.slice A1_1 l1_1.length c1_1) ∧ w'.cell? ⟨gb165, 2, none⟩ = some (.slice A1_2 l1_2.length c1_2) ∧ w'.cell? (ad166.add ((x5_2).toNat * 4)) = some (.int .i64 ((rd_T42 l0_0 x5_2).f0)) ∧ w'.cell? ⟨(ad166.add ((x5_2).toNat * 4)).block, (ad166.add ((x5_2).toNat * 4)).off + 1, none⟩ = some (.int .i64 ((rd_T42 l0_0 x5_2).f1.f0)) ∧ w'.cell? ⟨(ad166.add ((x5_2).toNat * 4)).block, (ad166.add ((x5_2).toNat * 4)).off + 2, none⟩ = some (.int .i64 ((rd_T42 l0_0 x5_2).f1.f1)) ∧ w'.cell? ⟨(ad166.add ((x5_2).toNat * 4)).block, (ad166.add ((x5_2).toNat * 4)).off + 3, none⟩ = some (.slice A166_3 ((rd_T42 l0_0 x5_2).f2).length c166_3) ∧ w'.cell? (ad167.add ((x5_2).toNat * 4)) = some (.int .i64 ((rd_T42 l1_0 x5_2).f0)) ∧ w'.cell? ⟨(ad167.add ((x5_2).toNat * 4)).block, (ad167.add ((x5_2).toNat * 4)).off + 1, none⟩ = some (.int .i64 ((rd_T42 l1_0 x5_2).f1.f0)) ∧ w'.cell? ⟨(ad167.add ((x5_2).toNat * 4)).block, (ad167.add ((x5_2).toNat * 4)).off + 2, none⟩ = some (.int .i64 ((rd_T42 l1_0 x5_2).f1.f1)) ∧ w'.cell? ⟨(ad167.add ((x5_2).toNat * 4)).block, (ad167.add ((x5_2).toNat * 4)).off + 3, none⟩ = some (.slice A167_3 ((rd_T42 l1_0 x5_2).f2).length c167_3)) (ds := []) #[false, false, false, false, false, false, false, false, false, false, false, false] (by kernel_rfl) rfl rfl ⟨(kC BK164.out 0).trans rfl, (kC BK164.out 1).trans rfl, (kC BK164.out 2).trans rfl, (kC BK165.out 0).trans rfl, (kC BK165.out 1).trans rfl, (kC BK165.out 2).trans rfl, ((HB.out.cell (World.block_lt_of_cell? w _ hw166_0)).trans hw166_0), ((HB.out.cell (World.block_lt_of_cell? w _ hw166_1)).trans hw166_1), ((HB.out.cell (World.block_lt_of_cell? w _ hw166_2)).trans hw166_2), ((HB.out.cell (World.block_lt_of_cell? w _ hw166_3)).trans hw166_3), ((HB.out.cell (World.block_lt_of_cell? w _ hw167_0)).trans hw167_0), ((HB.out.cell (World.block_lt_of_cell? w _ hw167_1)).trans hw167_1), ((HB.out.cell (World.block_lt_of_cell? w _ hw167_2)).trans hw167_2), ((HB.out.cell (World.block_lt_of_cell? w _ hw167_3)).trans hw167_3)⟩ (fun hHeld => ?_); refine with_tabW mapmakerref14_Same.tab6 mapmakerref14_Same.bits6 (fun HT_ HW_ => ?_); generalize wr.drew = w25 at BK164 BK165 HB HR166_3 HR167_3 hx166_0 hx166_1 hx166_2 hx166_3 hx167_0 hx167_1 hx167_2 hx167_3 hHeld ⊢; refine pu 0 40 (ba 12 1) ?_; refine pu 2 42 (ba 12 5) ?_; refine pu 5 45 (ba 12 37) ?_; refine pu 7 47 (ba 12 165) ?_; refine tk 1 41 (ba 12 167) ?_; refine pu 3 43 (ba 12 175) ?_; refine tk 4 44 (ba 12 191) ?_; refine tk 6 46 (ba 12 255) ?_; refine pu 8 48 (ba 12 511) ?_; refine tk 9 49 (ba 12 1023) ?_; refine one_ (i := 10) (N := some 50) (ba 12 2047) rfl rfl (one_of HT_.out (by kernel_rfl)) (by decide) (fun K hK => ?_); refine goes_ Try.func17 (by kernel_rfl) rfl #[.agg #[.int .i64 ((rd_T42 l0_0 x5_2).f0), .int .i64 ((rd_T42 l0_0 x5_2).f1.f0), .int .i64 ((rd_T42 l0_0 x5_2).f1.f1), .slice A166_3 ((rd_T42 l0_0 x5_2).f2).length c166_3], .agg #[.int .i64 ((rd_T42 l1_0 x5_2).f0), .int .i64 ((rd_T42 l1_0 x5_2).f1.f0), .int .i64 ((rd_T42 l1_0 x5_2).f1.f1), .slice A167_3 ((rd_T42 l1_0 x5_2).f2).length c167_3]] (by rfl) rfl rfl (by (try simp only [List.map_toArray, List.map_cons, List.map_nil]); first | done | rfl | (simp only [List.length_drop, List.length_take]; rfl)) ?_
         with_reducible refine (mapmakerref14_SameNode.calls k2 ((rd_T42 l0_0 x5_2).f0) ((rd_T42 l0_0 x5_2).f1.f0) ((rd_T42 l0_0 x5_2).f1.f1) _ _ ((rd_T42 l0_0 x5_2).f2) ((rd_T42 l1_0 x5_2).f0) ((rd_T42 l1_0 x5_2).f1.f0) ((rd_T42 l1_0 x5_2).f1.f1) _ _ ((rd_T42 l1_0 x5_2).f2) t168 _ ?side1 ?side2 ?side3 ?side4 A21.out).mono ?_
         (case side1 => exact cl HR166_3)
         (case side2 => exact HC166_3.out)
         (case side3 => exact cl HR167_3)
         (case side4 => exact HC167_3.out)
         rintro e w26 ⟨rfl, hb⟩; refine ⟨_, rfl, ?_⟩; replace BK164 := aM (kB (kl BK164) hb); replace BK165 := aM (kB (kl BK165) hb); replace HB := aM (bS (bl) hb)
         (try clear hb)
         (try clear hb2)
         (try clear hk)
         (try clear hi)
         refine hK.out _ _ ⟨(kC BK164.out 0).trans rfl, (kC BK164.out 1).trans rfl, (kC BK164.out 2).trans rfl, (kC BK165.out 0).trans rfl, (kC BK165.out 1).trans rfl, (kC BK165.out 2).trans rfl, ((HB.out.cell (World.block_lt_of_cell? w _ hw166_0)).trans hw166_0), ((HB.out.cell (World.block_lt_of_cell? w _ hw166_1)).trans hw166_1), ((HB.out.cell (World.block_lt_of_cell? w _ hw166_2)).trans hw166_2), ((HB.out.cell (World.block_lt_of_cell? w _ hw166_3)).trans hw166_3), ((HB.out.cell (World.block_lt_of_cell? w _ hw167_0)).trans hw167_0), ((HB.out.cell (World.block_lt_of_cell? w _ hw167_1)).trans hw167_1), ((HB.out.cell (World.block_lt_of_cell? w _ hw167_2)).trans hw167_2), ((HB.out.cell (World.block_lt_of_cell? w _ hw167_3)).trans hw167_3)⟩ (fun hHeld => ?_); clear hK K; refine norm_ (a' := ?_) ?_ ?_; rotate_left
         ·show Act.put _ (some 50) _ = _
          simp only [Act.put, sA, sB, sC, i64_w, i32_w]; rfl
         refine pu 11 51 (ba 12 4095) ?_; refine done_ (done_of HT_.out (by kernel_rfl)) ?_; have H := HH_.out; clear HH_
         by_cases c22 : t168 = true
         ·subst c22; have H1 : (mapmakerref14_Same.l0 k2 (wrap64 (x5_2 + 1)) l0_0 l0_1 l0_2 l1_0 l1_1 l1_2) = some r := by rw [if_pos rfl] at H; exact H
          clear H; have H := H1; clear H1; have H' := aM H; clear H
          try go_wp2
          go_roundg k2
          case measure => have := HJ2.out; have := HK2.out; omega
          case rel => exact ⟨(wrap64 (x5_2 + 1)), (by first | rfl | (simp; done) | (simp [*]; done)), H', ⟨by have := HJ2.out; have := HK2.out; omega⟩, ⟨kl BK164⟩, ⟨kl BK165⟩, ⟨bl⟩⟩
         ·replace c22 := Bool.eq_false_iff.mpr c22; subst c22; have H1 : (some false) = some r := by rw [if_neg (show ¬ (false = true) by decide)] at H; exact H
          clear H; have H := H1; clear H1; obtain rfl := Option.some.inj H
          try go_wp2
          go_ret; exact ⟨by first | rfl | (simp [errW_none, errW_some] <;> rfl) | (simp [*, errW_none, errW_some] <;> rfl), bl⟩
        ·rw [if_neg c20] at H; exact absurd H (by simp)
       ·rw [if_neg c19] at H; exact absurd H (by simp)
      ·rw [if_neg c18] at H; have c18b0 : decide (x5_2 < (l0_0.length : Int)) = false := decide_eq_false c18; clear c18; have H' := aM H; clear H; have hn31 := nn NB164_165; have hz32 := bc3 BK164
       go_wp2
       go_loopg [6] k2 (fun kq v6 w' => ∃ (x6_3 : Int), v6 = .int .i64 x6_3 ∧ Aside0 (mapmakerref14_Same.l1 kq x6_3 l0_0 l0_1 l0_2 l1_0 l1_1 l1_2 = some r) ∧ Aside0 (kq ≤ k2) ∧ Aside0 (w'.heap[gb164]? = some (.cells #[(.slice A0_0 l0_0.length c0_0), (.slice A0_1 l0_1.length c0_1), (.slice A0_2 l0_2.length c0_2)] 26 (0, 0))) ∧ Aside0 (w'.heap[gb165]? = some (.cells #[(.slice A1_0 l1_0.length c1_0), (.slice A1_1 l1_1.length c1_1), (.slice A1_2 l1_2.length c1_2)] 26 (0, 0))) ∧ Aside0 (Below w.heap.size w w'))
       case atStart => exact ⟨(0), (by first | rfl | (simp; done) | (simp [*]; done)), H', ⟨Nat.le_refl _⟩, ⟨kl BK164⟩, ⟨kl BK165⟩, ⟨bl⟩⟩
       case round =>
        clear H'; (try clear c6); (try clear c6b0); (try clear c6b1); (try clear c6b2); (try clear c7); (try clear c7b0); (try clear c7b1); (try clear c7b2); (try clear c17); (try clear c18); (try clear c18b0); (try clear c19); (try clear c19b0); (try clear c20); (try clear c20b0); (try clear c22); (try clear hz10); (try clear hz12); (try clear hz13); (try clear hz15); (try clear hz16); (try clear hz24); (try clear hz32); (try clear hz9); (try clear hx166_0); (try clear hx166_1); (try clear hx166_2); (try clear hx166_3); (try clear hx167_0); (try clear hx167_1); (try clear hx167_2); (try clear hx167_3); (try clear p166); (try clear p167); (try clear q166); (try clear q167); obtain ⟨x6_3, rfl, HA, HK3, BK164, BK165, HB⟩ := hrel
        cases gk with
        | zero => exact absurd HA.out (by simp [mapmakerref14_Same.l1])
        | succ k3 =>
         have H := HA.out; clear HA; simp only [mapmakerref14_Same.l1] at H
         by_cases c33 : x6_3 < (l0_1.length : Int)
         ·rw [if_pos c33] at H; have c33b0 : decide (x6_3 < (l0_1.length : Int)) = true := decide_eq_true c33; clear c33
          by_cases c34 : 0 ≤ x6_3
          ·rw [if_pos c34] at H; have c34b0 : decide (0 ≤ x6_3) = true := decide_eq_true c34; clear c34
           by_cases c35 : x6_3 < (l1_1.length : Int)
           ·rw [if_pos c35] at H; have c35b0 : decide (x6_3 < (l1_1.length : Int)) = true := decide_eq_true c35; clear c35; replace H := Option.bind_eq_some_iff.mp H; obtain ⟨t171, A360, H⟩ := H; (try dsimp only at H); have A36 := aM A360; clear A360; have HH_ := aM H; clear H; have hn38 := nn NB164_165; have hz39 := bc3 BK164
            try go_wp2
            replace BK164 := aM (kD BK164.out); replace BK165 := aM (kD BK165.out); replace HB := aM (bD HB.out); have p169 : 0 ≤ (x6_3 : Int) := oT; have q169 : x6_3 < (l0_1.length : Int) := oT; obtain ⟨ad169, A169_1, c169_1, A169_2, c169_2, e169, hx169_0, hx169_1, hx169_2, hl169_1, hi169_1, hl169_2, hi169_2⟩ := at_T45 HR0_1.out x6_3 p169 q169; have hw169_2 := hx169_2; have hw169_1 := hx169_1; have hw169_0 := hx169_0; cases e169
            replace hx169_0 := hs HB.out hx169_0; replace hx169_1 := hs HB.out hx169_1; replace hx169_2 := hs HB.out hx169_2; have HR169_1 := aM hi169_1; have HC169_1 := aM hl169_1; clear hi169_1 hl169_1; have HR169_2 := aM hi169_2; have HC169_2 := aM hl169_2; clear hi169_2 hl169_2; replace p169 := eq_true p169; replace q169 := eq_true q169; have p170 : 0 ≤ (x6_3 : Int) := oT; have q170 : x6_3 < (l1_1.length : Int) := oT; obtain ⟨ad170, A170_1, c170_1, A170_2, c170_2, e170, hx170_0, hx170_1, hx170_2, hl170_1, hi170_1, hl170_2, hi170_2⟩ := at_T45 HR1_1.out x6_3 p170 q170; have hw170_2 := hx170_2; have hw170_1 := hx170_1; have hw170_0 := hx170_0; cases e170
            replace hx170_0 := hs HB.out hx170_0; replace hx170_1 := hs HB.out hx170_1; replace hx170_2 := hs HB.out hx170_2; have HR170_1 := aM hi170_1; have HC170_1 := aM hl170_1; clear hi170_1 hl170_1; have HR170_2 := aM hi170_2; have HC170_2 := aM hl170_2; clear hi170_2 hl170_2; replace p170 := eq_true p170; replace q170 := eq_true q170; refine start_ (n := 12) (S := fun w' => w'.cell? ⟨gb164, 0, none⟩ = some (.slice A0_0 l0_0.length c0_0) ∧ w'.cell? ⟨gb164, 1, none⟩ = some (.slice (some ad169) l0_1.length c0_1) ∧ w'.cell? ⟨gb164, 2, none⟩ = some (.slice A0_2 l0_2.length c0_2) ∧ w'.cell? ⟨gb165, 0, none⟩ = some (.slice A1_0 l1_0.length c1_0) ∧ w'.cell? ⟨gb165, 1, none⟩ = some (.slice (some ad170) l1_1.length c1_1) ∧ w'.cell? ⟨gb165, 2, none⟩ = some (.slice A1_2 l1_2.length c1_2) ∧ w'.cell? (ad169.add ((x6_3).toNat * 3)) = some (.int .i64 ((rd_T45 l0_1 x6_3).f0)) ∧ w'.cell? ⟨(ad169.add ((x6_3).toNat * 3)).block, (ad169.add ((x6_3).toNat * 3)).off + 1, none⟩ = some (.slice A169_1 ((rd_T45 l0_1 x6_3).f1).length c169_1) ∧ w'.cell? ⟨(ad169.add ((x6_3).toNat * 3)).block, (ad169.add ((x6_3).toNat * 3)).off + 2, none⟩ = some (.slice A169_2 ((rd_T45 l0_1 x6_3).f2).length c169_2) ∧ w'.cell? (ad170.add ((x6_3).toNat * 3)) = some (.int .i64 ((rd_T45 l1_1 x6_3).f0)) ∧ w'.cell? ⟨(ad170.add ((x6_3).toNat * 3)).block, (ad170.add ((x6_3).toNat * 3)).off + 1, none⟩ = some (.slice A170_1 ((rd_T45 l1_1 x6_3).f1).length c170_1) ∧ w'.cell? ⟨(ad170.add ((x6_3).toNat * 3)).block, (ad170.add ((x6_3).toNat * 3)).off + 2, none⟩ = some (.slice A170_2 ((rd_T45 l1_1 x6_3).f2).length c170_2)) (ds := []) #[false, false, false, false, false, false, false, false, false, false, false, false] (by kernel_rfl) rfl rfl ⟨(kC BK164.out 0).trans rfl, (kC BK164.out 1).trans rfl, (kC BK164.out 2).trans rfl, (kC BK165.out 0).trans rfl, (kC BK165.out 1).trans rfl, (kC BK165.out 2).trans rfl, ((HB.out.cell (World.block_lt_of_cell? w _ hw169_0)).trans hw169_0), ((HB.out.cell (World.block_lt_of_cell? w _ hw169_1)).trans hw169_1), ((HB.out.cell (World.block_lt_of_cell? w _ hw169_2)).trans hw169_2), ((HB.out.cell (World.block_lt_of_cell? w _ hw170_0)).trans hw170_0), ((HB.out.cell (World.block_lt_of_cell? w _ hw170_1)).trans hw170_1), ((HB.out.cell (World.block_lt_of_cell? w _ hw170_2)).trans hw170_2)⟩ (fun hHeld => ?_); refine with_tabW mapmakerref14_Same.tab11 mapmakerref14_Same.bits11 (fun HT_ HW_ => ?_); generalize wr.drew = w40 at BK164 BK165 HB HR169_1 HR169_2 HR170_1 HR170_2 hx169_0 hx169_1 hx169_2 hx170_0 hx170_1 hx170_2 hHeld ⊢; refine pu 0 59 (ba 12 1) ?_; refine pu 2 61 (ba 12 5) ?_; refine pu 5 64 (ba 12 37) ?_; refine pu 7 66 (ba 12 165) ?_; refine tk 1 60 (ba 12 167) ?_; refine pu 3 62 (ba 12 175) ?_; refine tk 4 63 (ba 12 191) ?_; refine tk 6 65 (ba 12 255) ?_; refine pu 8 67 (ba 12 511) ?_; refine tk 9 68 (ba 12 1023) ?_; refine one_ (i := 10) (N := some 69) (ba 12 2047) rfl rfl (one_of HT_.out (by kernel_rfl)) (by decide) (fun K hK => ?_); refine goes_ Try.func18 (by kernel_rfl) rfl #[.agg #[.int .i64 ((rd_T45 l0_1 x6_3).f0), .slice A169_1 ((rd_T45 l0_1 x6_3).f1).length c169_1, .slice A169_2 ((rd_T45 l0_1 x6_3).f2).length c169_2], .agg #[.int .i64 ((rd_T45 l1_1 x6_3).f0), .slice A170_1 ((rd_T45 l1_1 x6_3).f1).length c170_1, .slice A170_2 ((rd_T45 l1_1 x6_3).f2).length c170_2]] (by rfl) rfl rfl (by (try simp only [List.map_toArray, List.map_cons, List.map_nil]); first | done | rfl | (simp only [List.length_drop, List.length_take]; rfl)) ?_
            with_reducible refine (mapmakerref14_SameWay.calls k3 ((rd_T45 l0_1 x6_3).f0) _ _ ((rd_T45 l0_1 x6_3).f1) _ _ ((rd_T45 l0_1 x6_3).f2) ((rd_T45 l1_1 x6_3).f0) _ _ ((rd_T45 l1_1 x6_3).f1) _ _ ((rd_T45 l1_1 x6_3).f2) t171 _ ?side1 ?side2 ?side3 ?side4 ?side5 ?side6 ?side7 ?side8 A36.out).mono ?_
            (case side1 => exact cl HR169_1)
            (case side2 => exact HC169_1.out)
            (case side3 => exact cl HR169_2)
            (case side4 => exact HC169_2.out)
            (case side5 => exact cl HR170_1)
            (case side6 => exact HC170_1.out)
            (case side7 => exact cl HR170_2)
            (case side8 => exact HC170_2.out)
            rintro e w41 ⟨rfl, hb⟩; refine ⟨_, rfl, ?_⟩; replace BK164 := aM (kB (kl BK164) hb); replace BK165 := aM (kB (kl BK165) hb); replace HB := aM (bS (bl) hb)
            (try clear hb)
            (try clear hb2)
            (try clear hk)
            (try clear hi)
            refine hK.out _ _ ⟨(kC BK164.out 0).trans rfl, (kC BK164.out 1).trans rfl, (kC BK164.out 2).trans rfl, (kC BK165.out 0).trans rfl, (kC BK165.out 1).trans rfl, (kC BK165.out 2).trans rfl, ((HB.out.cell (World.block_lt_of_cell? w _ hw169_0)).trans hw169_0), ((HB.out.cell (World.block_lt_of_cell? w _ hw169_1)).trans hw169_1), ((HB.out.cell (World.block_lt_of_cell? w _ hw169_2)).trans hw169_2), ((HB.out.cell (World.block_lt_of_cell? w _ hw170_0)).trans hw170_0), ((HB.out.cell (World.block_lt_of_cell? w _ hw170_1)).trans hw170_1), ((HB.out.cell (World.block_lt_of_cell? w _ hw170_2)).trans hw170_2)⟩ (fun hHeld => ?_); clear hK K; refine norm_ (a' := ?_) ?_ ?_; rotate_left
            ·show Act.put _ (some 69) _ = _
             simp only [Act.put, sA, sB, sC, i64_w, i32_w]; rfl
            refine pu 11 70 (ba 12 4095) ?_; refine done_ (done_of HT_.out (by kernel_rfl)) ?_; have H := HH_.out; clear HH_
            by_cases c37 : t171 = true
            ·subst c37; have H1 : (mapmakerref14_Same.l1 k3 (wrap64 (x6_3 + 1)) l0_0 l0_1 l0_2 l1_0 l1_1 l1_2) = some r := by rw [if_pos rfl] at H; exact H
             clear H; have H := H1; clear H1; have H' := aM H; clear H
             try go_wp2
             go_roundg k3
             case measure => have := HJ2.out; have := HK2.out; have := HK3.out; omega
             case rel => exact ⟨(wrap64 (x6_3 + 1)), (by first | rfl | (simp; done) | (simp [*]; done)), H', ⟨by have := HJ2.out; have := HK2.out; have := HK3.out; omega⟩, ⟨kl BK164⟩, ⟨kl BK165⟩, ⟨bl⟩⟩
            ·replace c37 := Bool.eq_false_iff.mpr c37; subst c37; have H1 : (some false) = some r := by rw [if_neg (show ¬ (false = true) by decide)] at H; exact H
             clear H; have H := H1; clear H1; obtain rfl := Option.some.inj H
             try go_wp2
             go_ret; exact ⟨by first | rfl | (simp [errW_none, errW_some] <;> rfl) | (simp [*, errW_none, errW_some] <;> rfl), bl⟩
           ·rw [if_neg c35] at H; exact absurd H (by simp)
          ·rw [if_neg c34] at H; exact absurd H (by simp)
         ·rw [if_neg c33] at H; have c33b0 : decide (x6_3 < (l0_1.length : Int)) = false := decide_eq_false c33; clear c33; have H' := aM H; clear H; have hn46 := nn NB164_165; have hz47 := bc3 BK164
          go_wp2
          go_loopg [7] k3 (fun kq v7 w' => ∃ (x7_4 : Int), v7 = .int .i64 x7_4 ∧ Aside0 (mapmakerref14_Same.l2 kq x7_4 l0_0 l0_1 l0_2 l1_0 l1_1 l1_2 = some r) ∧ Aside0 (kq ≤ k3) ∧ Aside0 (w'.heap[gb164]? = some (.cells #[(.slice A0_0 l0_0.length c0_0), (.slice A0_1 l0_1.length c0_1), (.slice A0_2 l0_2.length c0_2)] 26 (0, 0))) ∧ Aside0 (w'.heap[gb165]? = some (.cells #[(.slice A1_0 l1_0.length c1_0), (.slice A1_1 l1_1.length c1_1), (.slice A1_2 l1_2.length c1_2)] 26 (0, 0))) ∧ Aside0 (Below w.heap.size w w'))
          case atStart => exact ⟨(0), (by first | rfl | (simp; done) | (simp [*]; done)), H', ⟨Nat.le_refl _⟩, ⟨kl BK164⟩, ⟨kl BK165⟩, ⟨bl⟩⟩
          case round =>
           clear H'; (try clear c6); (try clear c6b0); (try clear c6b1); (try clear c6b2); (try clear c7); (try clear c7b0); (try clear c7b1); (try clear c7b2); (try clear c17); (try clear c18); (try clear c18b0); (try clear c19); (try clear c19b0); (try clear c20); (try clear c20b0); (try clear c22); (try clear c33); (try clear c33b0); (try clear c34); (try clear c34b0); (try clear c35); (try clear c35b0); (try clear c37); (try clear hz10); (try clear hz12); (try clear hz13); (try clear hz15); (try clear hz16); (try clear hz24); (try clear hz32); (try clear hz39); (try clear hz47); (try clear hz9); (try clear hx166_0); (try clear hx166_1); (try clear hx166_2); (try clear hx166_3); (try clear hx167_0); (try clear hx167_1); (try clear hx167_2); (try clear hx167_3); (try clear hx169_0); (try clear hx169_1); (try clear hx169_2); (try clear hx170_0); (try clear hx170_1); (try clear hx170_2); (try clear p166); (try clear p167); (try clear p169); (try clear p170); (try clear q166); (try clear q167); (try clear q169); (try clear q170); obtain ⟨x7_4, rfl, HA, HK4, BK164, BK165, HB⟩ := hrel
           cases gk with
           | zero => exact absurd HA.out (by simp [mapmakerref14_Same.l2])
           | succ k4 =>
            have H := HA.out; clear HA; simp only [mapmakerref14_Same.l2] at H
            by_cases c48 : x7_4 < (l0_2.length : Int)
            ·rw [if_pos c48] at H; have c48b0 : decide (x7_4 < (l0_2.length : Int)) = true := decide_eq_true c48; clear c48
             by_cases c49 : 0 ≤ x7_4
             ·rw [if_pos c49] at H; have c49b0 : decide (0 ≤ x7_4) = true := decide_eq_true c49; clear c49
              by_cases c50 : x7_4 < (l1_2.length : Int)
              ·rw [if_pos c50] at H; have c50b0 : decide (x7_4 < (l1_2.length : Int)) = true := decide_eq_true c50; clear c50; replace H := Option.bind_eq_some_iff.mp H; obtain ⟨t174, A510, H⟩ := H; (try dsimp only at H); have A51 := aM A510; clear A510; have HH_ := aM H; clear H; have hn53 := nn NB164_165; have hz54 := bc3 BK164
               try go_wp2
               replace BK164 := aM (kD BK164.out); replace BK165 := aM (kD BK165.out); replace HB := aM (bD HB.out); have p172 : 0 ≤ (x7_4 : Int) := oT; have q172 : x7_4 < (l0_2.length : Int) := oT; obtain ⟨ad172, A172_1, c172_1, A172_2, c172_2, e172, hx172_0, hx172_1, hx172_2, hl172_1, hi172_1, hl172_2, hi172_2⟩ := at_T48 HR0_2.out x7_4 p172 q172; have hw172_2 := hx172_2; have hw172_1 := hx172_1; have hw172_0 := hx172_0; cases e172
               replace hx172_0 := hs HB.out hx172_0; replace hx172_1 := hs HB.out hx172_1; replace hx172_2 := hs HB.out hx172_2; have HR172_1 := aM hi172_1; have HC172_1 := aM hl172_1; clear hi172_1 hl172_1; have HR172_2 := aM hi172_2; have HC172_2 := aM hl172_2; clear hi172_2 hl172_2; replace p172 := eq_true p172; replace q172 := eq_true q172; have p173 : 0 ≤ (x7_4 : Int) := oT; have q173 : x7_4 < (l1_2.length : Int) := oT; obtain ⟨ad173, A173_1, c173_1, A173_2, c173_2, e173, hx173_0, hx173_1, hx173_2, hl173_1, hi173_1, hl173_2, hi173_2⟩ := at_T48 HR1_2.out x7_4 p173 q173; have hw173_2 := hx173_2; have hw173_1 := hx173_1; have hw173_0 := hx173_0; cases e173
               replace hx173_0 := hs HB.out hx173_0; replace hx173_1 := hs HB.out hx173_1; replace hx173_2 := hs HB.out hx173_2; have HR173_1 := aM hi173_1; have HC173_1 := aM hl173_1; clear hi173_1 hl173_1; have HR173_2 := aM hi173_2; have HC173_2 := aM hl173_2; clear hi173_2 hl173_2; replace p173 := eq_true p173; replace q173 := eq_true q173; refine start_ (n := 12) (S := fun w' => w'.cell? ⟨gb164, 0, none⟩ = some (.slice A0_0 l0_0.length c0_0) ∧ w'.cell? ⟨gb164, 1, none⟩ = some (.slice A0_1 l0_1.length c0_1) ∧ w'.cell? ⟨gb164, 2, none⟩ = some (.slice (some ad172) l0_2.length c0_2) ∧ w'.cell? ⟨gb165, 0, none⟩ = some (.slice A1_0 l1_0.length c1_0) ∧ w'.cell? ⟨gb165, 1, none⟩ = some (.slice A1_1 l1_1.length c1_1) ∧ w'.cell? ⟨gb165, 2, none⟩ = some (.slice (some ad173) l1_2.length c1_2) ∧ w'.cell? (ad172.add ((x7_4).toNat * 3)) = some (.int .i64 ((rd_T48 l0_2 x7_4).f0)) ∧ w'.cell? ⟨(ad172.add ((x7_4).toNat * 3)).block, (ad172.add ((x7_4).toNat * 3)).off + 1, none⟩ = some (.slice A172_1 ((rd_T48 l0_2 x7_4).f1).length c172_1) ∧ w'.cell? ⟨(ad172.add ((x7_4).toNat * 3)).block, (ad172.add ((x7_4).toNat * 3)).off + 2, none⟩ = some (.slice A172_2 ((rd_T48 l0_2 x7_4).f2).length c172_2) ∧ w'.cell? (ad173.add ((x7_4).toNat * 3)) = some (.int .i64 ((rd_T48 l1_2 x7_4).f0)) ∧ w'.cell? ⟨(ad173.add ((x7_4).toNat * 3)).block, (ad173.add ((x7_4).toNat * 3)).off + 1, none⟩ = some (.slice A173_1 ((rd_T48 l1_2 x7_4).f1).length c173_1) ∧ w'.cell? ⟨(ad173.add ((x7_4).toNat * 3)).block, (ad173.add ((x7_4).toNat * 3)).off + 2, none⟩ = some (.slice A173_2 ((rd_T48 l1_2 x7_4).f2).length c173_2)) (ds := []) #[false, false, false, false, false, false, false, false, false, false, false, false] (by kernel_rfl) rfl rfl ⟨(kC BK164.out 0).trans rfl, (kC BK164.out 1).trans rfl, (kC BK164.out 2).trans rfl, (kC BK165.out 0).trans rfl, (kC BK165.out 1).trans rfl, (kC BK165.out 2).trans rfl, ((HB.out.cell (World.block_lt_of_cell? w _ hw172_0)).trans hw172_0), ((HB.out.cell (World.block_lt_of_cell? w _ hw172_1)).trans hw172_1), ((HB.out.cell (World.block_lt_of_cell? w _ hw172_2)).trans hw172_2), ((HB.out.cell (World.block_lt_of_cell? w _ hw173_0)).trans hw173_0), ((HB.out.cell (World.block_lt_of_cell? w _ hw173_1)).trans hw173_1), ((HB.out.cell (World.block_lt_of_cell? w _ hw173_2)).trans hw173_2)⟩ (fun hHeld => ?_); refine with_tabW mapmakerref14_Same.tab16 mapmakerref14_Same.bits16 (fun HT_ HW_ => ?_); generalize wr.drew = w55 at BK164 BK165 HB HR172_1 HR172_2 HR173_1 HR173_2 hx172_0 hx172_1 hx172_2 hx173_0 hx173_1 hx173_2 hHeld ⊢; refine pu 0 78 (ba 12 1) ?_; refine pu 2 80 (ba 12 5) ?_; refine pu 5 83 (ba 12 37) ?_; refine pu 7 85 (ba 12 165) ?_; refine tk 1 79 (ba 12 167) ?_; refine pu 3 81 (ba 12 175) ?_; refine tk 4 82 (ba 12 191) ?_; refine tk 6 84 (ba 12 255) ?_; refine pu 8 86 (ba 12 511) ?_; refine tk 9 87 (ba 12 1023) ?_; refine one_ (i := 10) (N := some 88) (ba 12 2047) rfl rfl (one_of HT_.out (by kernel_rfl)) (by decide) (fun K hK => ?_); refine goes_ Try.func19 (by kernel_rfl) rfl #[.agg #[.int .i64 ((rd_T48 l0_2 x7_4).f0), .slice A172_1 ((rd_T48 l0_2 x7_4).f1).length c172_1, .slice A172_2 ((rd_T48 l0_2 x7_4).f2).length c172_2], .agg #[.int .i64 ((rd_T48 l1_2 x7_4).f0), .slice A173_1 ((rd_T48 l1_2 x7_4).f1).length c173_1, .slice A173_2 ((rd_T48 l1_2 x7_4).f2).length c173_2]] (by rfl) rfl rfl (by (try simp only [List.map_toArray, List.map_cons, List.map_nil]); first | done | rfl | (simp only [List.length_drop, List.length_take]; rfl)) ?_
               with_reducible refine (mapmakerref14_SameRel.calls k4 ((rd_T48 l0_2 x7_4).f0) _ _ ((rd_T48 l0_2 x7_4).f1) _ _ ((rd_T48 l0_2 x7_4).f2) ((rd_T48 l1_2 x7_4).f0) _ _ ((rd_T48 l1_2 x7_4).f1) _ _ ((rd_T48 l1_2 x7_4).f2) t174 _ ?side1 ?side2 ?side3 ?side4 ?side5 ?side6 ?side7 ?side8 A51.out).mono ?_
               (case side1 => exact cl HR172_1)
               (case side2 => exact HC172_1.out)
               (case side3 => exact cl HR172_2)
               (case side4 => exact HC172_2.out)
               (case side5 => exact cl HR173_1)
               (case side6 => exact HC173_1.out)
               (case side7 => exact cl HR173_2)
               (case side8 => exact HC173_2.out)
               rintro e w56 ⟨rfl, hb⟩; refine ⟨_, rfl, ?_⟩; replace BK164 := aM (kB (kl BK164) hb); replace BK165 := aM (kB (kl BK165) hb); replace HB := aM (bS (bl) hb)
               (try clear hb)
               (try clear hb2)
               (try clear hk)
               (try clear hi)
               refine hK.out _ _ ⟨(kC BK164.out 0).trans rfl, (kC BK164.out 1).trans rfl, (kC BK164.out 2).trans rfl, (kC BK165.out 0).trans rfl, (kC BK165.out 1).trans rfl, (kC BK165.out 2).trans rfl, ((HB.out.cell (World.block_lt_of_cell? w _ hw172_0)).trans hw172_0), ((HB.out.cell (World.block_lt_of_cell? w _ hw172_1)).trans hw172_1), ((HB.out.cell (World.block_lt_of_cell? w _ hw172_2)).trans hw172_2), ((HB.out.cell (World.block_lt_of_cell? w _ hw173_0)).trans hw173_0), ((HB.out.cell (World.block_lt_of_cell? w _ hw173_1)).trans hw173_1), ((HB.out.cell (World.block_lt_of_cell? w _ hw173_2)).trans hw173_2)⟩ (fun hHeld => ?_); clear hK K; refine norm_ (a' := ?_) ?_ ?_; rotate_left
               ·show Act.put _ (some 88) _ = _
                simp only [Act.put, sA, sB, sC, i64_w, i32_w]; rfl
               refine pu 11 89 (ba 12 4095) ?_; refine done_ (done_of HT_.out (by kernel_rfl)) ?_; have H := HH_.out; clear HH_
               by_cases c52 : t174 = true
               ·subst c52; have H1 : (mapmakerref14_Same.l2 k4 (wrap64 (x7_4 + 1)) l0_0 l0_1 l0_2 l1_0 l1_1 l1_2) = some r := by rw [if_pos rfl] at H; exact H
                clear H; have H := H1; clear H1; have H' := aM H; clear H
                try go_wp2
                go_roundg k4
                case measure => have := HJ2.out; have := HK2.out; have := HK3.out; have := HK4.out; omega
                case rel => exact ⟨(wrap64 (x7_4 + 1)), (by first | rfl | (simp; done) | (simp [*]; done)), H', ⟨by have := HJ2.out; have := HK2.out; have := HK3.out; have := HK4.out; omega⟩, ⟨kl BK164⟩, ⟨kl BK165⟩, ⟨bl⟩⟩
               ·replace c52 := Bool.eq_false_iff.mpr c52; subst c52; have H1 : (some false) = some r := by rw [if_neg (show ¬ (false = true) by decide)] at H; exact H
                clear H; have H := H1; clear H1; obtain rfl := Option.some.inj H
                try go_wp2
                go_ret; exact ⟨by first | rfl | (simp [errW_none, errW_some] <;> rfl) | (simp [*, errW_none, errW_some] <;> rfl), bl⟩
              ·rw [if_neg c50] at H; exact absurd H (by simp)
             ·rw [if_neg c49] at H; exact absurd H (by simp)
            ·rw [if_neg c48] at H; have c48b0 : decide (x7_4 < (l0_2.length : Int)) = false := decide_eq_false c48; clear c48; obtain rfl := Option.some.inj H; have hn61 := nn NB164_165; have hz62 := bc3 BK164
             go_wp2
             go_ret; exact ⟨by first | rfl | (simp [errW_none, errW_some] <;> rfl) | (simp [*, errW_none, errW_some] <;> rfl), bl⟩
end Go.Proofs.Ytijoaohckgbneaa.PAll
