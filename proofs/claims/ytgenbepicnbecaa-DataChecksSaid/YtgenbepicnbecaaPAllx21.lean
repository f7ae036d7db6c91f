-- out of a driver of this session's prover over the kit's print: Lean checks it
import Derived.Test.YtgenbepicnbecaaPAllx0
import Derived.Test.YtgenbepicnbecaaPAllx16
import Derived.Test.YtgenbepicnbecaaPAllx18
import Derived.Test.YtgenbepicnbecaaPAllx20
namespace Go.Proofs.Ytgenbepicnbecaa.PAll
open Go.Proofs.YtgenbepicnbecaaG Go.Shelf Go.Lib
open Go.RowKit Go.Proofs.YtgenbepicnbecaaW.PrintWords Go.Proofs.YtgenbepicnbecaaW.PrintLast Go.Proofs.YtgenbepicnbecaaW.PrintMore
attribute [local go_sem] max2_int min2_int max_two min_two max_three min_three max_four min_four   -- for this text's walks alone
set_option linter.unusedVariables false
set_option linter.unusedSimpArgs false
mutual
def mapmakerref14_Check.j0 : Nat → Bool → List (S39) → List (S45) → List (S51) → Option (Int)
 | 0, _, _, _, _ => none
 | k + 1, x26, x307000, x307001, x307002 => if x26 = true then (some 5) else ((mapmakerref14_nodes.f k x307000).bind fun t307 => (if t307 = 0 then (mapmakerref14_Check.l0 k 0 0 x307000 x307001 x307002) else (some t307)))
def mapmakerref14_Check.l0 : Nat → Int → Int → List (S39) → List (S45) → List (S51) → Option (Int)
 | 0, _, _, _, _, _ => none
 | k + 1, x4, x5, x307000, x307001, x307002 => if x5 < (x307001.length : Int) then (if 0 ≤ x5 then ((mapmakerref14_id.f k ((rd_T45 x307001 x5).f0) x4).bind fun t309 => (if t309 = 0 then ((mapmakerref14_way.f k x307000 x307001 x307002 ((rd_T45 x307001 x5).f0) ((rd_T45 x307001 x5).f1) ((rd_T45 x307001 x5).f2)).bind fun t311 => (if t311 = 0 then (mapmakerref14_Check.l0 k ((rd_T45 x307001 x5).f0) (wrap64 (x5 + 1)) x307000 x307001 x307002) else (some t311))) else (some t309))) else (none)) else (mapmakerref14_Check.l1 k 0 0 x307000 x307001 x307002)
def mapmakerref14_Check.l1 : Nat → Int → Int → List (S39) → List (S45) → List (S51) → Option (Int)
 | 0, _, _, _, _, _ => none
 | k + 1, x4, x8, x307000, x307001, x307002 => if x8 < (x307002.length : Int) then (if 0 ≤ x8 then ((mapmakerref14_id.f k ((rd_T51 x307002 x8).f0) x4).bind fun t314 => (if t314 = 0 then ((mapmakerref14_rel.f k x307000 x307001 x307002 ((rd_T51 x307002 x8).f0) ((rd_T51 x307002 x8).f1) ((rd_T51 x307002 x8).f2)).bind fun t316 => (if t316 = 0 then (mapmakerref14_Check.l1 k ((rd_T51 x307002 x8).f0) (wrap64 (x8 + 1)) x307000 x307001 x307002) else (some t316))) else (some t314))) else (none)) else (some 0)
end
def mapmakerref14_Check.f (k : Nat) (l0_0 : List (S39)) (l0_1 : List (S45)) (l0_2 : List (S51)) : Option (Int) := if (l0_0.length : Int) > 10000 then (mapmakerref14_Check.j0 k true l0_0 l0_1 l0_2) else (if (l0_1.length : Int) > 10000 then (mapmakerref14_Check.j0 k true l0_0 l0_1 l0_2) else (mapmakerref14_Check.j0 k (decide ((l0_2.length : Int) > 10000)) l0_0 l0_1 l0_2))
theorem mapmakerref14_Check.mono_l : ∀ k, (∀ y0 y1 y2 y3, LeO (mapmakerref14_Check.j0 k y0 y1 y2 y3) (mapmakerref14_Check.j0 (k + 1) y0 y1 y2 y3)) ∧ (∀ y0 y1 y2 y3 y4, LeO (mapmakerref14_Check.l0 k y0 y1 y2 y3 y4) (mapmakerref14_Check.l0 (k + 1) y0 y1 y2 y3 y4)) ∧ (∀ y0 y1 y2 y3 y4, LeO (mapmakerref14_Check.l1 k y0 y1 y2 y3 y4) (mapmakerref14_Check.l1 (k + 1) y0 y1 y2 y3 y4))
 | 0 => ⟨fun _ _ _ _ r h => by simp [mapmakerref14_Check.j0] at h, fun _ _ _ _ _ r h => by simp [mapmakerref14_Check.l0] at h, fun _ _ _ _ _ r h => by simp [mapmakerref14_Check.l1] at h⟩
 | k + 1 => by
  obtain ⟨ih0, ih1, ih2⟩ := mapmakerref14_Check.mono_l k
  refine ⟨?_, ?_, ?_⟩
  ·intro y0 y1 y2 y3
   unfold mapmakerref14_Check.j0
   repeat' first
   | (with_reducible exact ih0 _ _ _ _)
   | (with_reducible exact ih1 _ _ _ _ _)
   | (with_reducible exact ih2 _ _ _ _ _)
   | (with_reducible exact mapmakerref14_id.mono _ _ _)
   | (with_reducible exact mapmakerref14_nodes.mono _ _)
   | (with_reducible exact mapmakerref14_rel.mono _ _ _ _ _ _ _)
   | (with_reducible exact mapmakerref14_way.mono _ _ _ _ _ _ _)
   | (with_reducible exact LeO.refl _)
   | (with_reducible exact LeO.none _)
   | (with_reducible refine LeO.ite ?_ ?_)
   | (with_reducible refine LeO.bind ?_ (fun _ => ?_))
   | exact ih0 _ _ _ _
   | exact ih1 _ _ _ _ _
   | exact ih2 _ _ _ _ _
   | exact mapmakerref14_id.mono _ _ _
   | exact mapmakerref14_nodes.mono _ _
   | exact mapmakerref14_rel.mono _ _ _ _ _ _ _
   | exact mapmakerref14_way.mono _ _ _ _ _ _ _
   | exact LeO.none _
   | refine LeO.ite ?_ ?_
   | refine LeO.bind ?_ (fun _ => ?_)
  ·intro y0 y1 y2 y3 y4
   unfold mapmakerref14_Check.l0
   repeat' first
   | (with_reducible exact ih0 _ _ _ _)
   | (with_reducible exact ih1 _ _ _ _ _)
   | (with_reducible exact ih2 _ _ _ _ _)
   | (with_reducible exact mapmakerref14_id.mono _ _ _)
   | (with_reducible exact mapmakerref14_nodes.mono _ _)
   | (with_reducible exact mapmakerref14_rel.mono _ _ _ _ _ _ _)
   | (with_reducible exact mapmakerref14_way.mono _ _ _ _ _ _ _)
   | (with_reducible exact LeO.refl _)
   | (with_reducible exact LeO.none _)
   | (with_reducible refine LeO.ite ?_ ?_)
   | (with_reducible refine LeO.bind ?_ (fun _ => ?_))
   | exact ih0 _ _ _ _
   | exact ih1 _ _ _ _ _
   | exact ih2 _ _ _ _ _
   | exact mapmakerref14_id.mono _ _ _
   | exact mapmakerref14_nodes.mono _ _
   | exact mapmakerref14_rel.mono _ _ _ _ _ _ _
   | exact mapmakerref14_way.mono _ _ _ _ _ _ _
   | exact LeO.none _
   | refine LeO.ite ?_ ?_
   | refine LeO.bind ?_ (fun _ => ?_)
  ·intro y0 y1 y2 y3 y4
   unfold mapmakerref14_Check.l1
   repeat' first
   | (with_reducible exact ih0 _ _ _ _)
   | (with_reducible exact ih1 _ _ _ _ _)
   | (with_reducible exact ih2 _ _ _ _ _)
   | (with_reducible exact mapmakerref14_id.mono _ _ _)
   | (with_reducible exact mapmakerref14_nodes.mono _ _)
   | (with_reducible exact mapmakerref14_rel.mono _ _ _ _ _ _ _)
   | (with_reducible exact mapmakerref14_way.mono _ _ _ _ _ _ _)
   | (with_reducible exact LeO.refl _)
   | (with_reducible exact LeO.none _)
   | (with_reducible refine LeO.ite ?_ ?_)
   | (with_reducible refine LeO.bind ?_ (fun _ => ?_))
   | exact ih0 _ _ _ _
   | exact ih1 _ _ _ _ _
   | exact ih2 _ _ _ _ _
   | exact mapmakerref14_id.mono _ _ _
   | exact mapmakerref14_nodes.mono _ _
   | exact mapmakerref14_rel.mono _ _ _ _ _ _ _
   | exact mapmakerref14_way.mono _ _ _ _ _ _ _
   | exact LeO.none _
   | refine LeO.ite ?_ ?_
   | refine LeO.bind ?_ (fun _ => ?_)
theorem mapmakerref14_Check.mono : ∀ a0 a1 a2 k, LeO (mapmakerref14_Check.f k a0 a1 a2) (mapmakerref14_Check.f (k + 1) a0 a1 a2) := by
 intro a0 a1 a2 k
 obtain ⟨ih0, ih1, ih2⟩ := mapmakerref14_Check.mono_l k
 unfold mapmakerref14_Check.f
 repeat' first
   | (with_reducible exact ih0 _ _ _ _)
   | (with_reducible exact ih1 _ _ _ _ _)
   | (with_reducible exact ih2 _ _ _ _ _)
   | (with_reducible exact mapmakerref14_id.mono _ _ _)
   | (with_reducible exact mapmakerref14_nodes.mono _ _)
   | (with_reducible exact mapmakerref14_rel.mono _ _ _ _ _ _ _)
   | (with_reducible exact mapmakerref14_way.mono _ _ _ _ _ _ _)
   | (with_reducible exact LeO.refl _)
   | (with_reducible exact LeO.none _)
   | (with_reducible refine LeO.ite ?_ ?_)
   | (with_reducible refine LeO.bind ?_ (fun _ => ?_))
   | exact ih0 _ _ _ _
   | exact ih1 _ _ _ _ _
   | exact ih2 _ _ _ _ _
   | exact mapmakerref14_id.mono _ _ _
   | exact mapmakerref14_nodes.mono _ _
   | exact mapmakerref14_rel.mono _ _ _ _ _ _ _
   | exact mapmakerref14_way.mono _ _ _ _ _ _ _
   | exact LeO.none _
   | refine LeO.ite ?_ ?_
   | refine LeO.bind ?_ (fun _ => ?_)
def mapmakerref14_Check.T13 : Bool × List (List Nat × List Nat) := (true, [([], []), ([], []), ([1], [1]), ([], []), ([2, 3], [2, 3]), ([4], [4]), ([0, 5], [0, 5]), ([6, 6, 0, 1, 2, 3, 4, 5, 6], [6])])
def mapmakerref14_Check.B13 : List Nat := [0, 0, 2, 0, 14, 30, 63, 127]
theorem mapmakerref14_Check.tab13 : rtab .any (opsOf Try.f11 13) = mapmakerref14_Check.T13 := by kernel_rfl
theorem mapmakerref14_Check.bits13 : waitsOk mapmakerref14_Check.T13.2 mapmakerref14_Check.B13 = true := by kernel_rfl
def mapmakerref14_Check.T24 : Bool × List (List Nat × List Nat) := (true, [([], []), ([], []), ([1], [1]), ([], []), ([2, 3], [2, 3]), ([4], [4]), ([0, 5], [0, 5]), ([6, 6, 0, 1, 2, 3, 4, 5, 6], [6])])
def mapmakerref14_Check.B24 : List Nat := [0, 0, 2, 0, 14, 30, 63, 127]
theorem mapmakerref14_Check.tab24 : rtab .any (opsOf Try.f11 24) = mapmakerref14_Check.T24 := by kernel_rfl
theorem mapmakerref14_Check.bits24 : waitsOk mapmakerref14_Check.T24.2 mapmakerref14_Check.B24 = true := by kernel_rfl
set_option maxHeartbeats 8000000 in
set_option maxRecDepth 100000 in
theorem mapmakerref14_Check.calls (k : Nat) (A0_0 : Option Addr) (c0_0 : Nat) (l0_0 : List (S39)) (A0_1 : Option Addr) (c0_1 : Nat) (l0_1 : List (S45)) (A0_2 : Option Addr) (c0_2 : Nat) (l0_2 : List (S51)) (r : Int) (w : World) (hr0_0 : Kd.C k39 w A0_0 l0_0.length l0_0) (hc0_0 : l0_0.length ≤ c0_0) (hr0_1 : Kd.C k45 w A0_1 l0_1.length l0_1) (hc0_1 : l0_1.length ≤ c0_1) (hr0_2 : Kd.C k51 w A0_2 l0_2.length l0_2) (hc0_2 : l0_2.length ≤ c0_2) (h : mapmakerref14_Check.f k l0_0 l0_1 l0_2 = some r) :
  Calls Try.prog 11 #[.agg #[.slice A0_0 l0_0.length c0_0, .slice A0_1 l0_1.length c0_1, .slice A0_2 l0_2.length c0_2]] w fun e w' => e = .returned (.int .i64 r) ∧ Below w.heap.size w w' := by
 have hu26 := Try.underlying26
 have hu45 := Try.underlying45
 have hu51 := Try.underlying51
 have HR0_0 := aM hr0_0
 have HC0_0 := aM hc0_0
 clear hr0_0 hc0_0
 have HR0_1 := aM hr0_1
 have HC0_1 := aM hc0_1
 clear hr0_1 hc0_1
 have HR0_2 := aM hr0_2
 have HC0_2 := aM hc0_2
 clear hr0_2 hc0_2
 have HB := aM (Below.refl w.heap.size w)
 have H : (if (l0_0.length : Int) > 10000 then (mapmakerref14_Check.j0 k true l0_0 l0_1 l0_2) else (if (l0_1.length : Int) > 10000 then (mapmakerref14_Check.j0 k true l0_0 l0_1 l0_2) else (mapmakerref14_Check.j0 k (decide ((l0_2.length : Int) > 10000)) l0_0 l0_1 l0_2))) = some r := h
 clear h
 have HC2 := aM H
 clear H
 go_enter Try.func11, Try.ntmps11
 go_upto_region 1 with (first | ((with_reducible refine gate_dst (N := 1) rfl ?_); (try (refine gate_guard (by rfl) ?_; dsimp only)); refine bx (N := 1) (cs := #[.slice A0_0 l0_0.length c0_0, .slice A0_1 l0_1.length c0_1, .slice A0_2 l0_2.length c0_2]) (t := 26) ?_; intro gb306 hg w3 hbox hb; have n0_ := aM (bS (bl) hb); have n1_ := aM (hbox); have n3_ := aM (gw (w := w) hg); clear HB; have HB := n0_; have BK306 := n1_; have GE306 := n3_; clear n0_ n1_ n3_ hb hbox hg))
 (try simp only [Act.put, sA, sB, sC])
 go_cut [26] (fun v26 wc => ∃ (kq : Nat) (x26_1 : Bool), v26 = .bool x26_1 ∧ Aside0 (mapmakerref14_Check.j0 kq x26_1 l0_0 l0_1 l0_2 = some r) ∧ Aside0 (kq ≤ k) ∧ Aside0 (wc.heap[gb306]? = some (.cells #[(.slice A0_0 l0_0.length c0_0), (.slice A0_1 l0_1.length c0_1), (.slice A0_2 l0_2.length c0_2)] 26 (0, 0))) ∧ Aside0 (Below w.heap.size w wc))
 case first =>
  have H := HC2.out
  clear HC2
  by_cases c4 : (l0_0.length : Int) > 10000
  ·rw [if_pos c4] at H
   have c4b0 : decide (10000 < (l0_0.length : Int)) = true := decide_eq_true c4
   have c4b1 : decide (10000 < l0_0.length) = true := decide_eq_true (by omega)
   clear c4
   (first | rw [c4b0] | (simp only [i64_w, i32_w]; rw [c4b0]) | skip)
   have H' := aM H
   clear H
   have hcz5_0 : w3.cell? ⟨gb306, 0, none⟩ = some (.slice A0_0 l0_0.length c0_0) := (kC BK306.out 0).trans rfl
   have hcz5_1 : w3.cell? ⟨gb306, 1, none⟩ = some (.slice A0_1 l0_1.length c0_1) := (kC BK306.out 1).trans rfl
   have hcz5_2 : w3.cell? ⟨gb306, 2, none⟩ = some (.slice A0_2 l0_2.length c0_2) := (kC BK306.out 2).trans rfl
   have hfz5_0 := kF BK306.out 0
   have hfz5_1 := kF BK306.out 1
   have hfz5_2 := kF BK306.out 2
   go_wp2
   go_meet
   case rel => exact ⟨_, (true), (by first | rfl | (simp; done) | (simp [*]; done)), H', ⟨by first | omega | exact Nat.le_refl _⟩, ⟨by (with_reducible repeat (first | refine kN ?_ _ | refine kD ?_ | refine kA ?_ _)); exact BK306.out⟩, ⟨bl⟩⟩
  ·rw [if_neg c4] at H
   have c4b0 : decide (10000 < (l0_0.length : Int)) = false := decide_eq_false c4
   have c4b1 : decide (10000 < l0_0.length) = false := decide_eq_false (by omega)
   clear c4
   (first | rw [c4b0] | (simp only [i64_w, i32_w]; rw [c4b0]) | skip)
   by_cases c6 : (l0_1.length : Int) > 10000
   ·rw [if_pos c6] at H
    have c6b0 : decide (10000 < (l0_1.length : Int)) = true := decide_eq_true c6
    have c6b1 : decide (10000 < l0_1.length) = true := decide_eq_true (by omega)
    clear c6
    have H' := aM H
    clear H
    have hcz7_0 : w3.cell? ⟨gb306, 0, none⟩ = some (.slice A0_0 l0_0.length c0_0) := (kC BK306.out 0).trans rfl
    have hcz7_1 : w3.cell? ⟨gb306, 1, none⟩ = some (.slice A0_1 l0_1.length c0_1) := (kC BK306.out 1).trans rfl
    have hcz7_2 : w3.cell? ⟨gb306, 2, none⟩ = some (.slice A0_2 l0_2.length c0_2) := (kC BK306.out 2).trans rfl
    have hfz7_0 := kF BK306.out 0
    have hfz7_1 := kF BK306.out 1
    have hfz7_2 := kF BK306.out 2
    go_wp2
    go_meet
    case rel => exact ⟨_, (true), (by first | rfl | (simp; done) | (simp [*]; done)), H', ⟨by first | omega | exact Nat.le_refl _⟩, ⟨by (with_reducible repeat (first | refine kN ?_ _ | refine kD ?_ | refine kA ?_ _)); exact BK306.out⟩, ⟨bl⟩⟩
   ·rw [if_neg c6] at H
    have c6b0 : decide (10000 < (l0_1.length : Int)) = false := decide_eq_false c6
    have c6b1 : decide (10000 < l0_1.length) = false := decide_eq_false (by omega)
    clear c6
    have H' := aM H
    clear H
    have hcz8_0 : w3.cell? ⟨gb306, 0, none⟩ = some (.slice A0_0 l0_0.length c0_0) := (kC BK306.out 0).trans rfl
    have hcz8_1 : w3.cell? ⟨gb306, 1, none⟩ = some (.slice A0_1 l0_1.length c0_1) := (kC BK306.out 1).trans rfl
    have hcz8_2 : w3.cell? ⟨gb306, 2, none⟩ = some (.slice A0_2 l0_2.length c0_2) := (kC BK306.out 2).trans rfl
    have hfz8_0 := kF BK306.out 0
    have hfz8_1 := kF BK306.out 1
    have hfz8_2 := kF BK306.out 2
    go_wp2
    go_meet
    case rel => exact ⟨_, (decide ((l0_2.length : Int) > 10000)), (by first | rfl | (simp; done) | (simp [*]; done)), H', ⟨by first | omega | exact Nat.le_refl _⟩, ⟨by (with_reducible repeat (first | refine kN ?_ _ | refine kD ?_ | refine kA ?_ _)); exact BK306.out⟩, ⟨bl⟩⟩
 case rest =>
  clear HC2
  try clear c1
  try clear p2
  try clear c4
  try clear c4b0
  try clear c4b1
  try clear c6
  try clear c6b0
  try clear c6b1
  try clear hcz5_0 hcz5_1 hcz5_2 hfz5_0 hfz5_1 hfz5_2
  try clear hcz7_0 hcz7_1 hcz7_2 hfz7_0 hfz7_1 hfz7_2
  try clear hcz8_0 hcz8_1 hcz8_2 hfz8_0 hfz8_1 hfz8_2
  obtain ⟨kq, x26_1, rfl, HA, HJ1, BK306, HB⟩ := hcut
  cases kq with
  | zero => exact absurd HA.out (by simp [mapmakerref14_Check.j0])
  | succ kj1 =>
   have H := HA.out
   clear HA
   simp only [mapmakerref14_Check.j0] at H
   by_cases c9 : x26_1 = true
   ·subst c9
    have H1 : (some 5) = some r := by rw [if_pos rfl] at H; exact H
    clear H
    have H := H1
    clear H1
    obtain rfl := Option.some.inj H
    go_wp2
    go_ret
    exact ⟨by first | rfl | (simp [errW_none, errW_some] <;> rfl) | (simp [*, errW_none, errW_some] <;> rfl), bl⟩
   ·replace c9 := Bool.eq_false_iff.mpr c9
    subst c9
    have H1 : ((mapmakerref14_nodes.f kj1 l0_0).bind fun t307 => (if t307 = 0 then (mapmakerref14_Check.l0 kj1 0 0 l0_0 l0_1 l0_2) else (some t307))) = some r := by rw [if_neg (show ¬ (false = true) by decide)] at H; exact H
    clear H
    have H := H1
    clear H1
    replace H := Option.bind_eq_some_iff.mp H
    obtain ⟨t307, A100, H⟩ := H
    try dsimp only at H
    have A10 := aM A100
    clear A100
    by_cases c11 : t307 = 0
    ·rw [if_pos c11] at H
     have c11b0 : (t307 == 0) = true := beq_iff_eq.mpr c11
     have c11b1 : (t307 != 0) = false := bne_eq_false_iff_eq.mpr c11
     clear c11
     have H' := aM H
     clear H
     have hcz12_0 : wc.cell? ⟨gb306, 0, none⟩ = some (.slice A0_0 l0_0.length c0_0) := (kC BK306.out 0).trans rfl
     have hcz12_1 : wc.cell? ⟨gb306, 1, none⟩ = some (.slice A0_1 l0_1.length c0_1) := (kC BK306.out 1).trans rfl
     have hcz12_2 : wc.cell? ⟨gb306, 2, none⟩ = some (.slice A0_2 l0_2.length c0_2) := (kC BK306.out 2).trans rfl
     have hfz12_0 := kF BK306.out 0
     have hfz12_1 := kF BK306.out 1
     have hfz12_2 := kF BK306.out 2
     go_wp2_with (first | ((with_reducible refine gate_callee (f := 40) rfl ?_); refine gL (some 29) Try.func40 #[.slice A0_0 l0_0.length c0_0] ?_; (with_reducible refine (mapmakerref14_nodes.calls kj1 _ _ l0_0 t307 _ ?side1 ?side2 A10.out).mono ?_); (case side1 => repeat (first | exact (Kd.C_below HR0_0.out HB.out) | (with_reducible refine cA ?_ _) | (with_reducible refine cN ?_ _) | (with_reducible refine cD ?_))); (case side2 => exact HC0_0.out); rintro e w13 ⟨rfl, hb⟩; refine ⟨_, rfl, ?_⟩; replace BK306 := aM (kB (kl BK306) hb); replace HB := aM (bS (bl) hb); (try clear hb); (try clear hb2); (try clear hk); (try clear hi)))
     go_loopg [4, 5] kj1 (fun kq v4 v5 w' => ∃ (x4_2 : Int) (x5_2 : Int), v4 = .int .i64 x4_2 ∧ v5 = .int .i64 x5_2 ∧ Aside0 (mapmakerref14_Check.l0 kq x4_2 x5_2 l0_0 l0_1 l0_2 = some r) ∧ Aside0 (kq ≤ kj1) ∧ Aside0 (w'.heap[gb306]? = some (.cells #[(.slice A0_0 l0_0.length c0_0), (.slice A0_1 l0_1.length c0_1), (.slice A0_2 l0_2.length c0_2)] 26 (0, 0))) ∧ Aside0 (Below w.heap.size w w'))
     case atStart => exact ⟨(0), (0), (by first | rfl | (simp; done) | (simp [*]; done)), (by first | rfl | (simp; done) | (simp [*]; done)), H', ⟨Nat.le_refl _⟩, ⟨by (with_reducible repeat (first | refine kN ?_ _ | refine kD ?_ | refine kA ?_ _)); exact BK306.out⟩, ⟨bl⟩⟩
     case round =>
      clear H'
      try clear c1
      try clear p2
      try clear c4
      try clear c4b0
      try clear c4b1
      try clear c6
      try clear c6b0
      try clear c6b1
      try clear c9
      try clear c11
      try clear c11b0
      try clear c11b1
      try clear hcz12_0 hcz12_1 hcz12_2 hfz12_0 hfz12_1 hfz12_2
      try clear hcz5_0 hcz5_1 hcz5_2 hfz5_0 hfz5_1 hfz5_2
      try clear hcz7_0 hcz7_1 hcz7_2 hfz7_0 hfz7_1 hfz7_2
      try clear hcz8_0 hcz8_1 hcz8_2 hfz8_0 hfz8_1 hfz8_2
      try clear p2
      obtain ⟨x4_2, x5_2, rfl, rfl, HA, HK2, BK306, HB⟩ := hrel
      cases gk with
      | zero => exact absurd HA.out (by simp [mapmakerref14_Check.l0])
      | succ k2 =>
       have H := HA.out
       clear HA
       simp only [mapmakerref14_Check.l0] at H
       by_cases c14 : x5_2 < (l0_1.length : Int)
       ·rw [if_pos c14] at H
        have c14b0 : decide (x5_2 < (l0_1.length : Int)) = true := decide_eq_true c14
        clear c14
        by_cases c15 : 0 ≤ x5_2
        ·rw [if_pos c15] at H
         have c15b0 : decide (0 ≤ x5_2) = true := decide_eq_true c15
         clear c15
         replace H := Option.bind_eq_some_iff.mp H
         obtain ⟨t309, A160, H⟩ := H
         try dsimp only at H
         have A16 := aM A160
         clear A160
         by_cases c17 : t309 = 0
         ·rw [if_pos c17] at H
          have c17b0 : (t309 == 0) = true := beq_iff_eq.mpr c17
          have c17b1 : (t309 != 0) = false := bne_eq_false_iff_eq.mpr c17
          clear c17
          replace H := Option.bind_eq_some_iff.mp H
          obtain ⟨t311, A180, H⟩ := H
          try dsimp only at H
          have A18 := aM A180
          clear A180
          by_cases c19 : t311 = 0
          ·rw [if_pos c19] at H
           have c19b0 : (t311 == 0) = true := beq_iff_eq.mpr c19
           have c19b1 : (t311 != 0) = false := bne_eq_false_iff_eq.mpr c19
           clear c19
           have H' := aM H
           clear H
           have hcz20_0 : wr.cell? ⟨gb306, 0, none⟩ = some (.slice A0_0 l0_0.length c0_0) := (kC BK306.out 0).trans rfl
           have hcz20_1 : wr.cell? ⟨gb306, 1, none⟩ = some (.slice A0_1 l0_1.length c0_1) := (kC BK306.out 1).trans rfl
           have hcz20_2 : wr.cell? ⟨gb306, 2, none⟩ = some (.slice A0_2 l0_2.length c0_2) := (kC BK306.out 2).trans rfl
           have hfz20_0 := kF BK306.out 0
           have hfz20_1 := kF BK306.out 1
           have hfz20_2 := kF BK306.out 2
           have p308 : 0 ≤ (x5_2 : Int) := oT
           have q308 : x5_2 < (l0_1.length : Int) := oT
           obtain ⟨ad308, A308_1, c308_1, A308_2, c308_2, e308, hx308_0, hx308_1, hx308_2, hl308_1, hi308_1, hl308_2, hi308_2⟩ := at_T45 HR0_1.out x5_2 p308 q308
           cases e308
           replace hx308_0 := hs HB.out hx308_0
           replace hx308_1 := hs HB.out hx308_1
           replace hx308_2 := hs HB.out hx308_2
           have HR308_1 := aM hi308_1
           have HC308_1 := aM hl308_1
           clear hi308_1 hl308_1
           have HR308_2 := aM hi308_2
           have HC308_2 := aM hl308_2
           clear hi308_2 hl308_2
           replace p308 := eq_true p308
           replace q308 := eq_true q308
           try go_wp2_with (first | ((with_reducible refine gate_callee (f := 41) rfl ?_); refine gL (some 47) Try.func41 #[.int .i64 ((rd_T45 l0_1 x5_2).f0), .int .i64 x4_2] ?_; (with_reducible refine (mapmakerref14_id.calls k2 ((rd_T45 l0_1 x5_2).f0) x4_2 t309 _ A16.out).mono ?_); rintro e w' ⟨rfl, ⟨nd, rfl⟩⟩; refine ⟨_, rfl, ?_⟩))
           (try (rw [drewN_self wr]; generalize hq_ : World.drewN wr _ = wr; have n0_ : Aside0 (wr.heap[gb306]? = some (.cells #[.slice A0_0 l0_0.length c0_0, .slice (some ad308) l0_1.length c0_1, .slice A0_2 l0_2.length c0_2] 26 (0, 0))) := ⟨by rw [← hq_]; exact (kl BK306)⟩; have n1_ : Aside0 (Below w.heap.size w wr) := ⟨by rw [← hq_]; exact (bl)⟩; clear BK306 HB hq_; have BK306 := n0_; have HB := n1_; clear n0_ n1_))
           replace BK306 := aM (kD BK306.out)
           replace HB := aM (bD HB.out)
           have p310 : 0 ≤ (x5_2 : Int) := oT
           have q310 : x5_2 < (l0_1.length : Int) := oT
           obtain ⟨ad310, A310_1, c310_1, A310_2, c310_2, e310, hx310_0, hx310_1, hx310_2, hl310_1, hi310_1, hl310_2, hi310_2⟩ := at_T45 HR0_1.out x5_2 p310 q310
           have hw310_2 := hx310_2
           have hw310_1 := hx310_1
           have hw310_0 := hx310_0
           obtain rfl : ad308 = ad310 := (by injection e310)
           replace hx310_0 := hs HB.out hx310_0
           replace hx310_1 := hs HB.out hx310_1
           replace hx310_2 := hs HB.out hx310_2
           have HR310_1 := aM hi310_1
           have HC310_1 := aM hl310_1
           clear hi310_1 hl310_1
           have HR310_2 := aM hi310_2
           have HC310_2 := aM hl310_2
           clear hi310_2 hl310_2
           replace p310 := eq_true p310
           replace q310 := eq_true q310
           refine start_ (n := 8) (S := fun w' => w'.cell? ⟨gb306, 0, none⟩ = some (.slice A0_0 l0_0.length c0_0) ∧ w'.cell? ⟨gb306, 1, none⟩ = some (.slice (some ad308) l0_1.length c0_1) ∧ w'.cell? ⟨gb306, 2, none⟩ = some (.slice A0_2 l0_2.length c0_2) ∧ w'.cell? (ad308.add ((x5_2).toNat * 3)) = some (.int .i64 ((rd_T45 l0_1 x5_2).f0)) ∧ w'.cell? ⟨(ad308.add ((x5_2).toNat * 3)).block, (ad308.add ((x5_2).toNat * 3)).off + 1, none⟩ = some (.slice A310_1 ((rd_T45 l0_1 x5_2).f1).length c310_1) ∧ w'.cell? ⟨(ad308.add ((x5_2).toNat * 3)).block, (ad308.add ((x5_2).toNat * 3)).off + 2, none⟩ = some (.slice A310_2 ((rd_T45 l0_1 x5_2).f2).length c310_2)) (ds := []) #[false, false, false, false, false, false, false, false] (by kernel_rfl) rfl rfl ⟨(kC BK306.out 0).trans rfl, (kC BK306.out 1).trans rfl, (kC BK306.out 2).trans rfl, ((HB.out.cell (World.block_lt_of_cell? w _ hw310_0)).trans hw310_0), ((HB.out.cell (World.block_lt_of_cell? w _ hw310_1)).trans hw310_1), ((HB.out.cell (World.block_lt_of_cell? w _ hw310_2)).trans hw310_2)⟩ (fun hHeld => ?_); refine with_tabW mapmakerref14_Check.tab13 mapmakerref14_Check.bits13 (fun HT_ HW_ => ?_)
           generalize wr.drew = w21 at BK306 HB HR310_1 HR310_2 hx310_0 hx310_1 hx310_2 hHeld ⊢
           refine pure_ (i := 1) (N := some 52) (v := ?_) (a' := ?_) (ba 8 2) rfl rfl (any_of HT_.out (by kernel_rfl)) (fun _ _ _ h => h) (Or.inl ⟨by rfl, ?_⟩) ?_ ?_
           rotate_left
           ·intro w'
            go_simp
            with_reducible rfl
           rotate_left
           ·simp only [Act.put, sA, sB, sC, i64_w, i32_w]
            rfl
           refine pure_ (i := 3) (N := some 54) (v := ?_) (a' := ?_) (ba 8 10) rfl rfl (any_of HT_.out (by kernel_rfl)) (fun _ _ _ h => h) (Or.inl ⟨by rfl, ?_⟩) ?_ ?_
           rotate_left
           ·intro w'
            go_simp
            with_reducible rfl
           rotate_left
           ·simp only [Act.put, sA, sB, sC, i64_w, i32_w]
            rfl
           refine take_ (i := 0) (N := some 51) (v := ?_) (a' := ?_) (ba 8 11) rfl rfl (take_ofW HT_.out HW_.out (by kernel_rfl)) (fun _ _ _ h => h) (Or.inl ⟨by rfl, ?_⟩) hHeld ?_ ?_
           rotate_left
           ·rintro w' ⟨s0, s1, s2, s3, s4, s5⟩
            go_simp
            with_reducible rfl
           rotate_left
           ·simp only [Act.put, sA, sB, sC, i64_w, i32_w]
            rfl
           refine take_ (i := 2) (N := some 53) (v := ?_) (a' := ?_) (ba 8 15) rfl rfl (take_ofW HT_.out HW_.out (by kernel_rfl)) (fun _ _ _ h => h) (Or.inl ⟨by rfl, ?_⟩) hHeld ?_ ?_
           rotate_left
           ·rintro w' ⟨s0, s1, s2, s3, s4, s5⟩
            go_simp
            with_reducible rfl
           rotate_left
           ·simp only [Act.put, sA, sB, sC, i64_w, i32_w]
            rfl
           refine pure_ (i := 4) (N := some 55) (v := ?_) (a' := ?_) (ba 8 31) rfl rfl (any_of HT_.out (by kernel_rfl)) (fun _ _ _ h => h) (Or.inl ⟨by rfl, ?_⟩) ?_ ?_
           rotate_left
           ·intro w'
            go_simp
            with_reducible rfl
           rotate_left
           ·simp only [Act.put, sA, sB, sC, i64_w, i32_w]
            rfl
           refine take_ (i := 5) (N := some 56) (v := ?_) (a' := ?_) (ba 8 63) rfl rfl (take_ofW HT_.out HW_.out (by kernel_rfl)) (fun _ _ _ h => h) (Or.inl ⟨by rfl, ?_⟩) hHeld ?_ ?_
           rotate_left
           ·rintro w' ⟨s0, s1, s2, s3, s4, s5⟩
            go_simp
            with_reducible rfl
           rotate_left
           ·simp only [Act.put, sA, sB, sC, i64_w, i32_w]
            rfl
           refine one_ (i := 6) (N := some 57) (ba 8 127) rfl rfl (one_of HT_.out (by kernel_rfl)) (by decide) (fun K hK => ?_)
           refine goes_ Try.func42 (by kernel_rfl) rfl #[.agg #[.slice A0_0 l0_0.length c0_0, .slice (some ad308) l0_1.length c0_1, .slice A0_2 l0_2.length c0_2], .agg #[.int .i64 ((rd_T45 l0_1 x5_2).f0), .slice A310_1 ((rd_T45 l0_1 x5_2).f1).length c310_1, .slice A310_2 ((rd_T45 l0_1 x5_2).f2).length c310_2]] (by rfl) rfl rfl (by (try simp only [List.map_toArray, List.map_cons, List.map_nil]); first | done | rfl | (simp only [List.length_drop, List.length_take]; rfl)) ?_
           with_reducible refine (mapmakerref14_way.calls k2 _ _ l0_0 _ _ l0_1 _ _ l0_2 ((rd_T45 l0_1 x5_2).f0) _ _ ((rd_T45 l0_1 x5_2).f1) _ _ ((rd_T45 l0_1 x5_2).f2) t311 _ ?side1 ?side2 ?side3 ?side4 ?side5 ?side6 ?side7 ?side8 ?side9 ?side10 A18.out).mono ?_
           (case side1 => repeat (first | exact (Kd.C_below HR0_0.out HB.out) | (with_reducible refine cA ?_ _) | (with_reducible refine cN ?_ _) | (with_reducible refine cD ?_)))
           (case side2 => exact HC0_0.out)
           (case side3 => repeat (first | exact (Kd.C_below HR0_1.out HB.out) | (with_reducible refine cA ?_ _) | (with_reducible refine cN ?_ _) | (with_reducible refine cD ?_)))
           (case side4 => exact HC0_1.out)
           (case side5 => repeat (first | exact (Kd.C_below HR0_2.out HB.out) | (with_reducible refine cA ?_ _) | (with_reducible refine cN ?_ _) | (with_reducible refine cD ?_)))
           (case side6 => exact HC0_2.out)
           (case side7 => repeat (first | exact (Kd.C_below HR310_1.out HB.out) | (with_reducible refine cA ?_ _) | (with_reducible refine cN ?_ _) | (with_reducible refine cD ?_)))
           (case side8 => exact HC310_1.out)
           (case side9 => repeat (first | exact (Kd.C_below HR310_2.out HB.out) | (with_reducible refine cA ?_ _) | (with_reducible refine cN ?_ _) | (with_reducible refine cD ?_)))
           (case side10 => exact HC310_2.out)
           rintro e w22 ⟨rfl, hb⟩
           refine ⟨_, rfl, ?_⟩
           replace BK306 := aM (kB (kl BK306) hb)
           replace HB := aM (bS (bl) hb)
           (try clear hb)
           (try clear hb2)
           (try clear hk)
           (try clear hi)
           refine hK.out _ _ ⟨(kC BK306.out 0).trans rfl, (kC BK306.out 1).trans rfl, (kC BK306.out 2).trans rfl, ((HB.out.cell (World.block_lt_of_cell? w _ hw310_0)).trans hw310_0), ((HB.out.cell (World.block_lt_of_cell? w _ hw310_1)).trans hw310_1), ((HB.out.cell (World.block_lt_of_cell? w _ hw310_2)).trans hw310_2)⟩ (fun hHeld => ?_)
           clear hK K
           refine norm_ (a' := ?_) ?_ ?_
           rotate_left
           ·show Act.put _ (some 57) _ = _
            simp only [Act.put, sA, sB, sC, i64_w, i32_w]
            rfl
           refine pure_ (i := 7) (N := some 7) (v := ?_) (a' := ?_) (ba 8 255) rfl rfl (any_of HT_.out (by kernel_rfl)) (fun _ _ _ h => h) (Or.inl ⟨by rfl, ?_⟩) ?_ ?_
           rotate_left
           ·intro w'
            go_simp
            with_reducible rfl
           rotate_left
           ·simp only [Act.put, sA, sB, sC, i64_w, i32_w]
            rfl
           refine done_ (done_of HT_.out (by kernel_rfl)) ?_
           have hcz23_0 : w22.cell? ⟨gb306, 0, none⟩ = some (.slice A0_0 l0_0.length c0_0) := (kC BK306.out 0).trans rfl
           have hcz23_1 : w22.cell? ⟨gb306, 1, none⟩ = some (.slice (some ad308) l0_1.length c0_1) := (kC BK306.out 1).trans rfl
           have hcz23_2 : w22.cell? ⟨gb306, 2, none⟩ = some (.slice A0_2 l0_2.length c0_2) := (kC BK306.out 2).trans rfl
           have hfz23_0 := kF BK306.out 0
           have hfz23_1 := kF BK306.out 1
           have hfz23_2 := kF BK306.out 2
           have p312 : 0 ≤ (x5_2 : Int) := oT
           have q312 : x5_2 < (l0_1.length : Int) := oT
           obtain ⟨ad312, A312_1, c312_1, A312_2, c312_2, e312, hx312_0, hx312_1, hx312_2, hl312_1, hi312_1, hl312_2, hi312_2⟩ := at_T45 HR0_1.out x5_2 p312 q312
           obtain rfl : ad308 = ad312 := (by injection e312)
           replace hx312_0 := hs HB.out hx312_0
           replace hx312_1 := hs HB.out hx312_1
           replace hx312_2 := hs HB.out hx312_2
           have HR312_1 := aM hi312_1
           have HC312_1 := aM hl312_1
           clear hi312_1 hl312_1
           have HR312_2 := aM hi312_2
           have HC312_2 := aM hl312_2
           clear hi312_2 hl312_2
           replace p312 := eq_true p312
           replace q312 := eq_true q312
           try go_wp2
           go_roundg k2
           case measure => have := HJ1.out; have := HK2.out; omega
           case rel => exact ⟨((rd_T45 l0_1 x5_2).f0), (wrap64 (x5_2 + 1)), (by first | rfl | (simp; done) | (simp [*]; done)), (by first | rfl | (simp; done) | (simp [*]; done)), H', ⟨by have := HJ1.out; have := HK2.out; omega⟩, ⟨by (with_reducible repeat (first | refine kN ?_ _ | refine kD ?_ | refine kA ?_ _)); exact BK306.out⟩, ⟨bl⟩⟩
          ·rw [if_neg c19] at H
           have c19b0 : (t311 == 0) = false := beq_eq_false_iff_ne.mpr c19
           have c19b1 : (t311 != 0) = true := bne_iff_ne.mpr c19
           obtain rfl := Option.some.inj H
           have hcz24_0 : wr.cell? ⟨gb306, 0, none⟩ = some (.slice A0_0 l0_0.length c0_0) := (kC BK306.out 0).trans rfl
           have hcz24_1 : wr.cell? ⟨gb306, 1, none⟩ = some (.slice A0_1 l0_1.length c0_1) := (kC BK306.out 1).trans rfl
           have hcz24_2 : wr.cell? ⟨gb306, 2, none⟩ = some (.slice A0_2 l0_2.length c0_2) := (kC BK306.out 2).trans rfl
           have hfz24_0 := kF BK306.out 0
           have hfz24_1 := kF BK306.out 1
           have hfz24_2 := kF BK306.out 2
           have p308 : 0 ≤ (x5_2 : Int) := oT
           have q308 : x5_2 < (l0_1.length : Int) := oT
           obtain ⟨ad308, A308_1, c308_1, A308_2, c308_2, e308, hx308_0, hx308_1, hx308_2, hl308_1, hi308_1, hl308_2, hi308_2⟩ := at_T45 HR0_1.out x5_2 p308 q308
           cases e308
           replace hx308_0 := hs HB.out hx308_0
           replace hx308_1 := hs HB.out hx308_1
           replace hx308_2 := hs HB.out hx308_2
           have HR308_1 := aM hi308_1
           have HC308_1 := aM hl308_1
           clear hi308_1 hl308_1
           have HR308_2 := aM hi308_2
           have HC308_2 := aM hl308_2
           clear hi308_2 hl308_2
           replace p308 := eq_true p308
           replace q308 := eq_true q308
           try go_wp2_with (first | ((with_reducible refine gate_callee (f := 41) rfl ?_); refine gL (some 47) Try.func41 #[.int .i64 ((rd_T45 l0_1 x5_2).f0), .int .i64 x4_2] ?_; (with_reducible refine (mapmakerref14_id.calls k2 ((rd_T45 l0_1 x5_2).f0) x4_2 t309 _ A16.out).mono ?_); rintro e w' ⟨rfl, ⟨nd, rfl⟩⟩; refine ⟨_, rfl, ?_⟩))
           (try (rw [drewN_self wr]; generalize hq_ : World.drewN wr _ = wr; have n0_ : Aside0 (wr.heap[gb306]? = some (.cells #[.slice A0_0 l0_0.length c0_0, .slice (some ad308) l0_1.length c0_1, .slice A0_2 l0_2.length c0_2] 26 (0, 0))) := ⟨by rw [← hq_]; exact (kl BK306)⟩; have n1_ : Aside0 (Below w.heap.size w wr) := ⟨by rw [← hq_]; exact (bl)⟩; clear BK306 HB hq_; have BK306 := n0_; have HB := n1_; clear n0_ n1_))
           replace BK306 := aM (kD BK306.out)
           replace HB := aM (bD HB.out)
           have p310 : 0 ≤ (x5_2 : Int) := oT
           have q310 : x5_2 < (l0_1.length : Int) := oT
           obtain ⟨ad310, A310_1, c310_1, A310_2, c310_2, e310, hx310_0, hx310_1, hx310_2, hl310_1, hi310_1, hl310_2, hi310_2⟩ := at_T45 HR0_1.out x5_2 p310 q310
           have hw310_2 := hx310_2
           have hw310_1 := hx310_1
           have hw310_0 := hx310_0
           obtain rfl : ad308 = ad310 := (by injection e310)
           replace hx310_0 := hs HB.out hx310_0
           replace hx310_1 := hs HB.out hx310_1
           replace hx310_2 := hs HB.out hx310_2
           have HR310_1 := aM hi310_1
           have HC310_1 := aM hl310_1
           clear hi310_1 hl310_1
           have HR310_2 := aM hi310_2
           have HC310_2 := aM hl310_2
           clear hi310_2 hl310_2
           replace p310 := eq_true p310
           replace q310 := eq_true q310
           refine start_ (n := 8) (S := fun w' => w'.cell? ⟨gb306, 0, none⟩ = some (.slice A0_0 l0_0.length c0_0) ∧ w'.cell? ⟨gb306, 1, none⟩ = some (.slice (some ad308) l0_1.length c0_1) ∧ w'.cell? ⟨gb306, 2, none⟩ = some (.slice A0_2 l0_2.length c0_2) ∧ w'.cell? (ad308.add ((x5_2).toNat * 3)) = some (.int .i64 ((rd_T45 l0_1 x5_2).f0)) ∧ w'.cell? ⟨(ad308.add ((x5_2).toNat * 3)).block, (ad308.add ((x5_2).toNat * 3)).off + 1, none⟩ = some (.slice A310_1 ((rd_T45 l0_1 x5_2).f1).length c310_1) ∧ w'.cell? ⟨(ad308.add ((x5_2).toNat * 3)).block, (ad308.add ((x5_2).toNat * 3)).off + 2, none⟩ = some (.slice A310_2 ((rd_T45 l0_1 x5_2).f2).length c310_2)) (ds := []) #[false, false, false, false, false, false, false, false] (by kernel_rfl) rfl rfl ⟨(kC BK306.out 0).trans rfl, (kC BK306.out 1).trans rfl, (kC BK306.out 2).trans rfl, ((HB.out.cell (World.block_lt_of_cell? w _ hw310_0)).trans hw310_0), ((HB.out.cell (World.block_lt_of_cell? w _ hw310_1)).trans hw310_1), ((HB.out.cell (World.block_lt_of_cell? w _ hw310_2)).trans hw310_2)⟩ (fun hHeld => ?_); refine with_tabW mapmakerref14_Check.tab13 mapmakerref14_Check.bits13 (fun HT_ HW_ => ?_)
           generalize wr.drew = w25 at BK306 HB HR310_1 HR310_2 hx310_0 hx310_1 hx310_2 hHeld ⊢
           refine pure_ (i := 1) (N := some 52) (v := ?_) (a' := ?_) (ba 8 2) rfl rfl (any_of HT_.out (by kernel_rfl)) (fun _ _ _ h => h) (Or.inl ⟨by rfl, ?_⟩) ?_ ?_
           rotate_left
           ·intro w'
            go_simp
            with_reducible rfl
           rotate_left
           ·simp only [Act.put, sA, sB, sC, i64_w, i32_w]
            rfl
           refine pure_ (i := 3) (N := some 54) (v := ?_) (a' := ?_) (ba 8 10) rfl rfl (any_of HT_.out (by kernel_rfl)) (fun _ _ _ h => h) (Or.inl ⟨by rfl, ?_⟩) ?_ ?_
           rotate_left
           ·intro w'
            go_simp
            with_reducible rfl
           rotate_left
           ·simp only [Act.put, sA, sB, sC, i64_w, i32_w]
            rfl
           refine take_ (i := 0) (N := some 51) (v := ?_) (a' := ?_) (ba 8 11) rfl rfl (take_ofW HT_.out HW_.out (by kernel_rfl)) (fun _ _ _ h => h) (Or.inl ⟨by rfl, ?_⟩) hHeld ?_ ?_
           rotate_left
           ·rintro w' ⟨s0, s1, s2, s3, s4, s5⟩
            go_simp
            with_reducible rfl
           rotate_left
           ·simp only [Act.put, sA, sB, sC, i64_w, i32_w]
            rfl
           refine take_ (i := 2) (N := some 53) (v := ?_) (a' := ?_) (ba 8 15) rfl rfl (take_ofW HT_.out HW_.out (by kernel_rfl)) (fun _ _ _ h => h) (Or.inl ⟨by rfl, ?_⟩) hHeld ?_ ?_
           rotate_left
           ·rintro w' ⟨s0, s1, s2, s3, s4, s5⟩
            go_simp
            with_reducible rfl
           rotate_left
           ·simp only [Act.put, sA, sB, sC, i64_w, i32_w]
            rfl
           refine pure_ (i := 4) (N := some 55) (v := ?_) (a' := ?_) (ba 8 31) rfl rfl (any_of HT_.out (by kernel_rfl)) (fun _ _ _ h => h) (Or.inl ⟨by rfl, ?_⟩) ?_ ?_
           rotate_left
           ·intro w'
            go_simp
            with_reducible rfl
           rotate_left
           ·simp only [Act.put, sA, sB, sC, i64_w, i32_w]
            rfl
           refine take_ (i := 5) (N := some 56) (v := ?_) (a' := ?_) (ba 8 63) rfl rfl (take_ofW HT_.out HW_.out (by kernel_rfl)) (fun _ _ _ h => h) (Or.inl ⟨by rfl, ?_⟩) hHeld ?_ ?_
           rotate_left
           ·rintro w' ⟨s0, s1, s2, s3, s4, s5⟩
            go_simp
            with_reducible rfl
           rotate_left
           ·simp only [Act.put, sA, sB, sC, i64_w, i32_w]
            rfl
           refine one_ (i := 6) (N := some 57) (ba 8 127) rfl rfl (one_of HT_.out (by kernel_rfl)) (by decide) (fun K hK => ?_)
           refine goes_ Try.func42 (by kernel_rfl) rfl #[.agg #[.slice A0_0 l0_0.length c0_0, .slice (some ad308) l0_1.length c0_1, .slice A0_2 l0_2.length c0_2], .agg #[.int .i64 ((rd_T45 l0_1 x5_2).f0), .slice A310_1 ((rd_T45 l0_1 x5_2).f1).length c310_1, .slice A310_2 ((rd_T45 l0_1 x5_2).f2).length c310_2]] (by rfl) rfl rfl (by (try simp only [List.map_toArray, List.map_cons, List.map_nil]); first | done | rfl | (simp only [List.length_drop, List.length_take]; rfl)) ?_
           with_reducible refine (mapmakerref14_way.calls k2 _ _ l0_0 _ _ l0_1 _ _ l0_2 ((rd_T45 l0_1 x5_2).f0) _ _ ((rd_T45 l0_1 x5_2).f1) _ _ ((rd_T45 l0_1 x5_2).f2) t311 _ ?side1 ?side2 ?side3 ?side4 ?side5 ?side6 ?side7 ?side8 ?side9 ?side10 A18.out).mono ?_
           (case side1 => repeat (first | exact (Kd.C_below HR0_0.out HB.out) | (with_reducible refine cA ?_ _) | (with_reducible refine cN ?_ _) | (with_reducible refine cD ?_)))
           (case side2 => exact HC0_0.out)
           (case side3 => repeat (first | exact (Kd.C_below HR0_1.out HB.out) | (with_reducible refine cA ?_ _) | (with_reducible refine cN ?_ _) | (with_reducible refine cD ?_)))
           (case side4 => exact HC0_1.out)
           (case side5 => repeat (first | exact (Kd.C_below HR0_2.out HB.out) | (with_reducible refine cA ?_ _) | (with_reducible refine cN ?_ _) | (with_reducible refine cD ?_)))
           (case side6 => exact HC0_2.out)
           (case side7 => repeat (first | exact (Kd.C_below HR310_1.out HB.out) | (with_reducible refine cA ?_ _) | (with_reducible refine cN ?_ _) | (with_reducible refine cD ?_)))
           (case side8 => exact HC310_1.out)
           (case side9 => repeat (first | exact (Kd.C_below HR310_2.out HB.out) | (with_reducible refine cA ?_ _) | (with_reducible refine cN ?_ _) | (with_reducible refine cD ?_)))
           (case side10 => exact HC310_2.out)
           rintro e w26 ⟨rfl, hb⟩
           refine ⟨_, rfl, ?_⟩
           replace BK306 := aM (kB (kl BK306) hb)
           replace HB := aM (bS (bl) hb)
           (try clear hb)
           (try clear hb2)
           (try clear hk)
           (try clear hi)
           refine hK.out _ _ ⟨(kC BK306.out 0).trans rfl, (kC BK306.out 1).trans rfl, (kC BK306.out 2).trans rfl, ((HB.out.cell (World.block_lt_of_cell? w _ hw310_0)).trans hw310_0), ((HB.out.cell (World.block_lt_of_cell? w _ hw310_1)).trans hw310_1), ((HB.out.cell (World.block_lt_of_cell? w _ hw310_2)).trans hw310_2)⟩ (fun hHeld => ?_)
           clear hK K
           refine norm_ (a' := ?_) ?_ ?_
           rotate_left
           ·show Act.put _ (some 57) _ = _
            simp only [Act.put, sA, sB, sC, i64_w, i32_w]
            rfl
           refine pure_ (i := 7) (N := some 7) (v := ?_) (a' := ?_) (ba 8 255) rfl rfl (any_of HT_.out (by kernel_rfl)) (fun _ _ _ h => h) (Or.inl ⟨by rfl, ?_⟩) ?_ ?_
           rotate_left
           ·intro w'
            go_simp
            with_reducible rfl
           rotate_left
           ·simp only [Act.put, sA, sB, sC, i64_w, i32_w]
            rfl
           refine done_ (done_of HT_.out (by kernel_rfl)) ?_
           try go_wp2
           go_ret
           exact ⟨by first | rfl | (simp [errW_none, errW_some] <;> rfl) | (simp [*, errW_none, errW_some] <;> rfl), bl⟩
         ·rw [if_neg c17] at H
          have c17b0 : (t309 == 0) = false := beq_eq_false_iff_ne.mpr c17
          have c17b1 : (t309 != 0) = true := bne_iff_ne.mpr c17
          obtain rfl := Option.some.inj H
          have hcz27_0 : wr.cell? ⟨gb306, 0, none⟩ = some (.slice A0_0 l0_0.length c0_0) := (kC BK306.out 0).trans rfl
          have hcz27_1 : wr.cell? ⟨gb306, 1, none⟩ = some (.slice A0_1 l0_1.length c0_1) := (kC BK306.out 1).trans rfl
          have hcz27_2 : wr.cell? ⟨gb306, 2, none⟩ = some (.slice A0_2 l0_2.length c0_2) := (kC BK306.out 2).trans rfl
          have hfz27_0 := kF BK306.out 0
          have hfz27_1 := kF BK306.out 1
          have hfz27_2 := kF BK306.out 2
          have p308 : 0 ≤ (x5_2 : Int) := oT
          have q308 : x5_2 < (l0_1.length : Int) := oT
          obtain ⟨ad308, A308_1, c308_1, A308_2, c308_2, e308, hx308_0, hx308_1, hx308_2, hl308_1, hi308_1, hl308_2, hi308_2⟩ := at_T45 HR0_1.out x5_2 p308 q308
          cases e308
          replace hx308_0 := hs HB.out hx308_0
          replace hx308_1 := hs HB.out hx308_1
          replace hx308_2 := hs HB.out hx308_2
          have HR308_1 := aM hi308_1
          have HC308_1 := aM hl308_1
          clear hi308_1 hl308_1
          have HR308_2 := aM hi308_2
          have HC308_2 := aM hl308_2
          clear hi308_2 hl308_2
          replace p308 := eq_true p308
          replace q308 := eq_true q308
          go_wp2_with (first | ((with_reducible refine gate_callee (f := 41) rfl ?_); refine gL (some 47) Try.func41 #[.int .i64 ((rd_T45 l0_1 x5_2).f0), .int .i64 x4_2] ?_; (with_reducible refine (mapmakerref14_id.calls k2 ((rd_T45 l0_1 x5_2).f0) x4_2 t309 _ A16.out).mono ?_); rintro e w' ⟨rfl, ⟨nd, rfl⟩⟩; refine ⟨_, rfl, ?_⟩))
          go_ret
          exact ⟨by first | rfl | (simp [errW_none, errW_some] <;> rfl) | (simp [*, errW_none, errW_some] <;> rfl), bl⟩
        ·rw [if_neg c15] at H
         exact absurd H (by simp)
       ·rw [if_neg c14] at H
        have c14b0 : decide (x5_2 < (l0_1.length : Int)) = false := decide_eq_false c14
        clear c14
        have H' := aM H
        clear H
        have hcz28_0 : wr.cell? ⟨gb306, 0, none⟩ = some (.slice A0_0 l0_0.length c0_0) := (kC BK306.out 0).trans rfl
        have hcz28_1 : wr.cell? ⟨gb306, 1, none⟩ = some (.slice A0_1 l0_1.length c0_1) := (kC BK306.out 1).trans rfl
        have hcz28_2 : wr.cell? ⟨gb306, 2, none⟩ = some (.slice A0_2 l0_2.length c0_2) := (kC BK306.out 2).trans rfl
        have hfz28_0 := kF BK306.out 0
        have hfz28_1 := kF BK306.out 1
        have hfz28_2 := kF BK306.out 2
        go_wp2
        go_loopg [4, 8] k2 (fun kq v4 v8 w' => ∃ (x4_3 : Int) (x8_3 : Int), v4 = .int .i64 x4_3 ∧ v8 = .int .i64 x8_3 ∧ Aside0 (mapmakerref14_Check.l1 kq x4_3 x8_3 l0_0 l0_1 l0_2 = some r) ∧ Aside0 (kq ≤ k2) ∧ Aside0 (w'.heap[gb306]? = some (.cells #[(.slice A0_0 l0_0.length c0_0), (.slice A0_1 l0_1.length c0_1), (.slice A0_2 l0_2.length c0_2)] 26 (0, 0))) ∧ Aside0 (Below w.heap.size w w'))
        case atStart => exact ⟨(0), (0), (by first | rfl | (simp; done) | (simp [*]; done)), (by first | rfl | (simp; done) | (simp [*]; done)), H', ⟨Nat.le_refl _⟩, ⟨by (with_reducible repeat (first | refine kN ?_ _ | refine kD ?_ | refine kA ?_ _)); exact BK306.out⟩, ⟨bl⟩⟩
        case round =>
         clear H'
         try clear c1
         try clear p2
         try clear c3
         try clear p3
         try clear q3
         try clear hx3
         try clear c4
         try clear c4b0
         try clear c4b1
         try clear c6
         try clear c6b0
         try clear c6b1
         try clear p6
         try clear c9
         try clear c11
         try clear c11b0
         try clear c11b1
         try clear c14
         try clear c14b0
         try clear c15
         try clear c15b0
         try clear c17
         try clear c17b0
         try clear c17b1
         try clear c19
         try clear c19b0
         try clear c19b1
         try clear hcz12_0 hcz12_1 hcz12_2 hfz12_0 hfz12_1 hfz12_2
         try clear hcz20_0 hcz20_1 hcz20_2 hfz20_0 hfz20_1 hfz20_2
         try clear hcz23_0 hcz23_1 hcz23_2 hfz23_0 hfz23_1 hfz23_2
         try clear hcz24_0 hcz24_1 hcz24_2 hfz24_0 hfz24_1 hfz24_2
         try clear hcz27_0 hcz27_1 hcz27_2 hfz27_0 hfz27_1 hfz27_2
         try clear hcz28_0 hcz28_1 hcz28_2 hfz28_0 hfz28_1 hfz28_2
         try clear hcz5_0 hcz5_1 hcz5_2 hfz5_0 hfz5_1 hfz5_2
         try clear hcz7_0 hcz7_1 hcz7_2 hfz7_0 hfz7_1 hfz7_2
         try clear hcz8_0 hcz8_1 hcz8_2 hfz8_0 hfz8_1 hfz8_2
         try clear hx308_0
         try clear hx308_1
         try clear hx308_2
         try clear hx310_0
         try clear hx310_1
         try clear hx310_2
         try clear hx312_0
         try clear hx312_1
         try clear hx312_2
         try clear p2
         try clear p308
         try clear p310
         try clear p312
         try clear q308
         try clear q310
         try clear q312
         obtain ⟨x4_3, x8_3, rfl, rfl, HA, HK3, BK306, HB⟩ := hrel
         cases gk with
         | zero => exact absurd HA.out (by simp [mapmakerref14_Check.l1])
         | succ k3 =>
          have H := HA.out
          clear HA
          simp only [mapmakerref14_Check.l1] at H
          by_cases c29 : x8_3 < (l0_2.length : Int)
          ·rw [if_pos c29] at H
           have c29b0 : decide (x8_3 < (l0_2.length : Int)) = true := decide_eq_true c29
           clear c29
           by_cases c30 : 0 ≤ x8_3
           ·rw [if_pos c30] at H
            have c30b0 : decide (0 ≤ x8_3) = true := decide_eq_true c30
            clear c30
            replace H := Option.bind_eq_some_iff.mp H
            obtain ⟨t314, A310, H⟩ := H
            try dsimp only at H
            have A31 := aM A310
            clear A310
            by_cases c32 : t314 = 0
            ·rw [if_pos c32] at H
             have c32b0 : (t314 == 0) = true := beq_iff_eq.mpr c32
             have c32b1 : (t314 != 0) = false := bne_eq_false_iff_eq.mpr c32
             clear c32
             replace H := Option.bind_eq_some_iff.mp H
             obtain ⟨t316, A330, H⟩ := H
             try dsimp only at H
             have A33 := aM A330
             clear A330
             by_cases c34 : t316 = 0
             ·rw [if_pos c34] at H
              have c34b0 : (t316 == 0) = true := beq_iff_eq.mpr c34
              have c34b1 : (t316 != 0) = false := bne_eq_false_iff_eq.mpr c34
              clear c34
              have H' := aM H
              clear H
              have hcz35_0 : wr.cell? ⟨gb306, 0, none⟩ = some (.slice A0_0 l0_0.length c0_0) := (kC BK306.out 0).trans rfl
              have hcz35_1 : wr.cell? ⟨gb306, 1, none⟩ = some (.slice A0_1 l0_1.length c0_1) := (kC BK306.out 1).trans rfl
              have hcz35_2 : wr.cell? ⟨gb306, 2, none⟩ = some (.slice A0_2 l0_2.length c0_2) := (kC BK306.out 2).trans rfl
              have hfz35_0 := kF BK306.out 0
              have hfz35_1 := kF BK306.out 1
              have hfz35_2 := kF BK306.out 2
              have p313 : 0 ≤ (x8_3 : Int) := oT
              have q313 : x8_3 < (l0_2.length : Int) := oT
              obtain ⟨ad313, A313_1, c313_1, A313_2, c313_2, e313, hx313_0, hx313_1, hx313_2, hl313_1, hi313_1, hl313_2, hi313_2⟩ := at_T51 HR0_2.out x8_3 p313 q313
              cases e313
              replace hx313_0 := hs HB.out hx313_0
              replace hx313_1 := hs HB.out hx313_1
              replace hx313_2 := hs HB.out hx313_2
              have HR313_1 := aM hi313_1
              have HC313_1 := aM hl313_1
              clear hi313_1 hl313_1
              have HR313_2 := aM hi313_2
              have HC313_2 := aM hl313_2
              clear hi313_2 hl313_2
              replace p313 := eq_true p313
              replace q313 := eq_true q313
              try go_wp2_with (first | ((with_reducible refine gate_callee (f := 41) rfl ?_); refine gL (some 81) Try.func41 #[.int .i64 ((rd_T51 l0_2 x8_3).f0), .int .i64 x4_3] ?_; (with_reducible refine (mapmakerref14_id.calls k3 ((rd_T51 l0_2 x8_3).f0) x4_3 t314 _ A31.out).mono ?_); rintro e w' ⟨rfl, ⟨nd, rfl⟩⟩; refine ⟨_, rfl, ?_⟩))
              (try (rw [drewN_self wr]; generalize hq_ : World.drewN wr _ = wr; have n0_ : Aside0 (wr.heap[gb306]? = some (.cells #[.slice A0_0 l0_0.length c0_0, .slice A0_1 l0_1.length c0_1, .slice (some ad313) l0_2.length c0_2] 26 (0, 0))) := ⟨by rw [← hq_]; exact (kl BK306)⟩; have n1_ : Aside0 (Below w.heap.size w wr) := ⟨by rw [← hq_]; exact (bl)⟩; clear BK306 HB hq_; have BK306 := n0_; have HB := n1_; clear n0_ n1_))
              replace BK306 := aM (kD BK306.out)
              replace HB := aM (bD HB.out)
              have p315 : 0 ≤ (x8_3 : Int) := oT
              have q315 : x8_3 < (l0_2.length : Int) := oT
              obtain ⟨ad315, A315_1, c315_1, A315_2, c315_2, e315, hx315_0, hx315_1, hx315_2, hl315_1, hi315_1, hl315_2, hi315_2⟩ := at_T51 HR0_2.out x8_3 p315 q315
              have hw315_2 := hx315_2
              have hw315_1 := hx315_1
              have hw315_0 := hx315_0
              obtain rfl : ad313 = ad315 := (by injection e315)
              replace hx315_0 := hs HB.out hx315_0
              replace hx315_1 := hs HB.out hx315_1
              replace hx315_2 := hs HB.out hx315_2
              have HR315_1 := aM hi315_1
              have HC315_1 := aM hl315_1
              clear hi315_1 hl315_1
              have HR315_2 := aM hi315_2
              have HC315_2 := aM hl315_2
              clear hi315_2 hl315_2
              replace p315 := eq_true p315
              replace q315 := eq_true q315
              refine start_ (n := 8) (S := fun w' => w'.cell? ⟨gb306, 0, none⟩ = some (.slice A0_0 l0_0.length c0_0) ∧ w'.cell? ⟨gb306, 1, none⟩ = some (.slice A0_1 l0_1.length c0_1) ∧ w'.cell? ⟨gb306, 2, none⟩ = some (.slice (some ad313) l0_2.length c0_2) ∧ w'.cell? (ad313.add ((x8_3).toNat * 3)) = some (.int .i64 ((rd_T51 l0_2 x8_3).f0)) ∧ w'.cell? ⟨(ad313.add ((x8_3).toNat * 3)).block, (ad313.add ((x8_3).toNat * 3)).off + 1, none⟩ = some (.slice A315_1 ((rd_T51 l0_2 x8_3).f1).length c315_1) ∧ w'.cell? ⟨(ad313.add ((x8_3).toNat * 3)).block, (ad313.add ((x8_3).toNat * 3)).off + 2, none⟩ = some (.slice A315_2 ((rd_T51 l0_2 x8_3).f2).length c315_2)) (ds := []) #[false, false, false, false, false, false, false, false] (by kernel_rfl) rfl rfl ⟨(kC BK306.out 0).trans rfl, (kC BK306.out 1).trans rfl, (kC BK306.out 2).trans rfl, ((HB.out.cell (World.block_lt_of_cell? w _ hw315_0)).trans hw315_0), ((HB.out.cell (World.block_lt_of_cell? w _ hw315_1)).trans hw315_1), ((HB.out.cell (World.block_lt_of_cell? w _ hw315_2)).trans hw315_2)⟩ (fun hHeld => ?_); refine with_tabW mapmakerref14_Check.tab24 mapmakerref14_Check.bits24 (fun HT_ HW_ => ?_)
              generalize wr.drew = w36 at BK306 HB HR315_1 HR315_2 hx315_0 hx315_1 hx315_2 hHeld ⊢
              refine pure_ (i := 1) (N := some 86) (v := ?_) (a' := ?_) (ba 8 2) rfl rfl (any_of HT_.out (by kernel_rfl)) (fun _ _ _ h => h) (Or.inl ⟨by rfl, ?_⟩) ?_ ?_
              rotate_left
              ·intro w'
               go_simp
               with_reducible rfl
              rotate_left
              ·simp only [Act.put, sA, sB, sC, i64_w, i32_w]
               rfl
              refine pure_ (i := 3) (N := some 88) (v := ?_) (a' := ?_) (ba 8 10) rfl rfl (any_of HT_.out (by kernel_rfl)) (fun _ _ _ h => h) (Or.inl ⟨by rfl, ?_⟩) ?_ ?_
              rotate_left
              ·intro w'
               go_simp
               with_reducible rfl
              rotate_left
              ·simp only [Act.put, sA, sB, sC, i64_w, i32_w]
               rfl
              refine take_ (i := 0) (N := some 85) (v := ?_) (a' := ?_) (ba 8 11) rfl rfl (take_ofW HT_.out HW_.out (by kernel_rfl)) (fun _ _ _ h => h) (Or.inl ⟨by rfl, ?_⟩) hHeld ?_ ?_
              rotate_left
              ·rintro w' ⟨s0, s1, s2, s3, s4, s5⟩
               go_simp
               with_reducible rfl
              rotate_left
              ·simp only [Act.put, sA, sB, sC, i64_w, i32_w]
               rfl
              refine take_ (i := 2) (N := some 87) (v := ?_) (a' := ?_) (ba 8 15) rfl rfl (take_ofW HT_.out HW_.out (by kernel_rfl)) (fun _ _ _ h => h) (Or.inl ⟨by rfl, ?_⟩) hHeld ?_ ?_
              rotate_left
              ·rintro w' ⟨s0, s1, s2, s3, s4, s5⟩
               go_simp
               with_reducible rfl
              rotate_left
              ·simp only [Act.put, sA, sB, sC, i64_w, i32_w]
               rfl
              refine pure_ (i := 4) (N := some 89) (v := ?_) (a' := ?_) (ba 8 31) rfl rfl (any_of HT_.out (by kernel_rfl)) (fun _ _ _ h => h) (Or.inl ⟨by rfl, ?_⟩) ?_ ?_
              rotate_left
              ·intro w'
               go_simp
               with_reducible rfl
              rotate_left
              ·simp only [Act.put, sA, sB, sC, i64_w, i32_w]
               rfl
              refine take_ (i := 5) (N := some 90) (v := ?_) (a' := ?_) (ba 8 63) rfl rfl (take_ofW HT_.out HW_.out (by kernel_rfl)) (fun _ _ _ h => h) (Or.inl ⟨by rfl, ?_⟩) hHeld ?_ ?_
              rotate_left
              ·rintro w' ⟨s0, s1, s2, s3, s4, s5⟩
               go_simp
               with_reducible rfl
              rotate_left
              ·simp only [Act.put, sA, sB, sC, i64_w, i32_w]
               rfl
              refine one_ (i := 6) (N := some 91) (ba 8 127) rfl rfl (one_of HT_.out (by kernel_rfl)) (by decide) (fun K hK => ?_)
              refine goes_ Try.func43 (by kernel_rfl) rfl #[.agg #[.slice A0_0 l0_0.length c0_0, .slice A0_1 l0_1.length c0_1, .slice (some ad313) l0_2.length c0_2], .agg #[.int .i64 ((rd_T51 l0_2 x8_3).f0), .slice A315_1 ((rd_T51 l0_2 x8_3).f1).length c315_1, .slice A315_2 ((rd_T51 l0_2 x8_3).f2).length c315_2]] (by rfl) rfl rfl (by (try simp only [List.map_toArray, List.map_cons, List.map_nil]); first | done | rfl | (simp only [List.length_drop, List.length_take]; rfl)) ?_
              with_reducible refine (mapmakerref14_rel.calls k3 _ _ l0_0 _ _ l0_1 _ _ l0_2 ((rd_T51 l0_2 x8_3).f0) _ _ ((rd_T51 l0_2 x8_3).f1) _ _ ((rd_T51 l0_2 x8_3).f2) t316 _ ?side1 ?side2 ?side3 ?side4 ?side5 ?side6 ?side7 ?side8 ?side9 ?side10 A33.out).mono ?_
              (case side1 => repeat (first | exact (Kd.C_below HR0_0.out HB.out) | (with_reducible refine cA ?_ _) | (with_reducible refine cN ?_ _) | (with_reducible refine cD ?_)))
              (case side2 => exact HC0_0.out)
              (case side3 => repeat (first | exact (Kd.C_below HR0_1.out HB.out) | (with_reducible refine cA ?_ _) | (with_reducible refine cN ?_ _) | (with_reducible refine cD ?_)))
              (case side4 => exact HC0_1.out)
              (case side5 => repeat (first | exact (Kd.C_below HR0_2.out HB.out) | (with_reducible refine cA ?_ _) | (with_reducible refine cN ?_ _) | (with_reducible refine cD ?_)))
              (case side6 => exact HC0_2.out)
              (case side7 => repeat (first | exact (Kd.C_below HR315_1.out HB.out) | (with_reducible refine cA ?_ _) | (with_reducible refine cN ?_ _) | (with_reducible refine cD ?_)))
              (case side8 => exact HC315_1.out)
              (case side9 => repeat (first | exact (Kd.C_below HR315_2.out HB.out) | (with_reducible refine cA ?_ _) | (with_reducible refine cN ?_ _) | (with_reducible refine cD ?_)))
              (case side10 => exact HC315_2.out)
              rintro e w37 ⟨rfl, hb⟩
              refine ⟨_, rfl, ?_⟩
              replace BK306 := aM (kB (kl BK306) hb)
              replace HB := aM (bS (bl) hb)
              (try clear hb)
              (try clear hb2)
              (try clear hk)
              (try clear hi)
              refine hK.out _ _ ⟨(kC BK306.out 0).trans rfl, (kC BK306.out 1).trans rfl, (kC BK306.out 2).trans rfl, ((HB.out.cell (World.block_lt_of_cell? w _ hw315_0)).trans hw315_0), ((HB.out.cell (World.block_lt_of_cell? w _ hw315_1)).trans hw315_1), ((HB.out.cell (World.block_lt_of_cell? w _ hw315_2)).trans hw315_2)⟩ (fun hHeld => ?_)
              clear hK K
              refine norm_ (a' := ?_) ?_ ?_
              rotate_left
              ·show Act.put _ (some 91) _ = _
               simp only [Act.put, sA, sB, sC, i64_w, i32_w]
               rfl
              refine pure_ (i := 7) (N := some 10) (v := ?_) (a' := ?_) (ba 8 255) rfl rfl (any_of HT_.out (by kernel_rfl)) (fun _ _ _ h => h) (Or.inl ⟨by rfl, ?_⟩) ?_ ?_
              rotate_left
              ·intro w'
               go_simp
               with_reducible rfl
              rotate_left
              ·simp only [Act.put, sA, sB, sC, i64_w, i32_w]
               rfl
              refine done_ (done_of HT_.out (by kernel_rfl)) ?_
              have hcz38_0 : w37.cell? ⟨gb306, 0, none⟩ = some (.slice A0_0 l0_0.length c0_0) := (kC BK306.out 0).trans rfl
              have hcz38_1 : w37.cell? ⟨gb306, 1, none⟩ = some (.slice A0_1 l0_1.length c0_1) := (kC BK306.out 1).trans rfl
              have hcz38_2 : w37.cell? ⟨gb306, 2, none⟩ = some (.slice (some ad313) l0_2.length c0_2) := (kC BK306.out 2).trans rfl
              have hfz38_0 := kF BK306.out 0
              have hfz38_1 := kF BK306.out 1
              have hfz38_2 := kF BK306.out 2
              have p317 : 0 ≤ (x8_3 : Int) := oT
              have q317 : x8_3 < (l0_2.length : Int) := oT
              obtain ⟨ad317, A317_1, c317_1, A317_2, c317_2, e317, hx317_0, hx317_1, hx317_2, hl317_1, hi317_1, hl317_2, hi317_2⟩ := at_T51 HR0_2.out x8_3 p317 q317
              obtain rfl : ad313 = ad317 := (by injection e317)
              replace hx317_0 := hs HB.out hx317_0
              replace hx317_1 := hs HB.out hx317_1
              replace hx317_2 := hs HB.out hx317_2
              have HR317_1 := aM hi317_1
              have HC317_1 := aM hl317_1
              clear hi317_1 hl317_1
              have HR317_2 := aM hi317_2
              have HC317_2 := aM hl317_2
              clear hi317_2 hl317_2
              replace p317 := eq_true p317
              replace q317 := eq_true q317
              try go_wp2
              go_roundg k3
              case measure => have := HJ1.out; have := HK2.out; have := HK3.out; omega
              case rel => exact ⟨((rd_T51 l0_2 x8_3).f0), (wrap64 (x8_3 + 1)), (by first | rfl | (simp; done) | (simp [*]; done)), (by first | rfl | (simp; done) | (simp [*]; done)), H', ⟨by have := HJ1.out; have := HK2.out; have := HK3.out; omega⟩, ⟨by (with_reducible repeat (first | refine kN ?_ _ | refine kD ?_ | refine kA ?_ _)); exact BK306.out⟩, ⟨bl⟩⟩
             ·rw [if_neg c34] at H
              have c34b0 : (t316 == 0) = false := beq_eq_false_iff_ne.mpr c34
              have c34b1 : (t316 != 0) = true := bne_iff_ne.mpr c34
              obtain rfl := Option.some.inj H
              have hcz39_0 : wr.cell? ⟨gb306, 0, none⟩ = some (.slice A0_0 l0_0.length c0_0) := (kC BK306.out 0).trans rfl
              have hcz39_1 : wr.cell? ⟨gb306, 1, none⟩ = some (.slice A0_1 l0_1.length c0_1) := (kC BK306.out 1).trans rfl
              have hcz39_2 : wr.cell? ⟨gb306, 2, none⟩ = some (.slice A0_2 l0_2.length c0_2) := (kC BK306.out 2).trans rfl
              have hfz39_0 := kF BK306.out 0
              have hfz39_1 := kF BK306.out 1
              have hfz39_2 := kF BK306.out 2
              have p313 : 0 ≤ (x8_3 : Int) := oT
              have q313 : x8_3 < (l0_2.length : Int) := oT
              obtain ⟨ad313, A313_1, c313_1, A313_2, c313_2, e313, hx313_0, hx313_1, hx313_2, hl313_1, hi313_1, hl313_2, hi313_2⟩ := at_T51 HR0_2.out x8_3 p313 q313
              cases e313
              replace hx313_0 := hs HB.out hx313_0
              replace hx313_1 := hs HB.out hx313_1
              replace hx313_2 := hs HB.out hx313_2
              have HR313_1 := aM hi313_1
              have HC313_1 := aM hl313_1
              clear hi313_1 hl313_1
              have HR313_2 := aM hi313_2
              have HC313_2 := aM hl313_2
              clear hi313_2 hl313_2
              replace p313 := eq_true p313
              replace q313 := eq_true q313
              try go_wp2_with (first | ((with_reducible refine gate_callee (f := 41) rfl ?_); refine gL (some 81) Try.func41 #[.int .i64 ((rd_T51 l0_2 x8_3).f0), .int .i64 x4_3] ?_; (with_reducible refine (mapmakerref14_id.calls k3 ((rd_T51 l0_2 x8_3).f0) x4_3 t314 _ A31.out).mono ?_); rintro e w' ⟨rfl, ⟨nd, rfl⟩⟩; refine ⟨_, rfl, ?_⟩))
              (try (rw [drewN_self wr]; generalize hq_ : World.drewN wr _ = wr; have n0_ : Aside0 (wr.heap[gb306]? = some (.cells #[.slice A0_0 l0_0.length c0_0, .slice A0_1 l0_1.length c0_1, .slice (some ad313) l0_2.length c0_2] 26 (0, 0))) := ⟨by rw [← hq_]; exact (kl BK306)⟩; have n1_ : Aside0 (Below w.heap.size w wr) := ⟨by rw [← hq_]; exact (bl)⟩; clear BK306 HB hq_; have BK306 := n0_; have HB := n1_; clear n0_ n1_))
              replace BK306 := aM (kD BK306.out)
              replace HB := aM (bD HB.out)
              have p315 : 0 ≤ (x8_3 : Int) := oT
              have q315 : x8_3 < (l0_2.length : Int) := oT
              obtain ⟨ad315, A315_1, c315_1, A315_2, c315_2, e315, hx315_0, hx315_1, hx315_2, hl315_1, hi315_1, hl315_2, hi315_2⟩ := at_T51 HR0_2.out x8_3 p315 q315
              have hw315_2 := hx315_2
              have hw315_1 := hx315_1
              have hw315_0 := hx315_0
              obtain rfl : ad313 = ad315 := (by injection e315)
              replace hx315_0 := hs HB.out hx315_0
              replace hx315_1 := hs HB.out hx315_1
              replace hx315_2 := hs HB.out hx315_2
              have HR315_1 := aM hi315_1
              have HC315_1 := aM hl315_1
              clear hi315_1 hl315_1
              have HR315_2 := aM hi315_2
              have HC315_2 := aM hl315_2
              clear hi315_2 hl315_2
              replace p315 := eq_true p315
              replace q315 := eq_true q315
              refine start_ (n := 8) (S := fun w' => w'.cell? ⟨gb306, 0, none⟩ = some (.slice A0_0 l0_0.length c0_0) ∧ w'.cell? ⟨gb306, 1, none⟩ = some (.slice A0_1 l0_1.length c0_1) ∧ w'.cell? ⟨gb306, 2, none⟩ = some (.slice (some ad313) l0_2.length c0_2) ∧ w'.cell? (ad313.add ((x8_3).toNat * 3)) = some (.int .i64 ((rd_T51 l0_2 x8_3).f0)) ∧ w'.cell? ⟨(ad313.add ((x8_3).toNat * 3)).block, (ad313.add ((x8_3).toNat * 3)).off + 1, none⟩ = some (.slice A315_1 ((rd_T51 l0_2 x8_3).f1).length c315_1) ∧ w'.cell? ⟨(ad313.add ((x8_3).toNat * 3)).block, (ad313.add ((x8_3).toNat * 3)).off + 2, none⟩ = some (.slice A315_2 ((rd_T51 l0_2 x8_3).f2).length c315_2)) (ds := []) #[false, false, false, false, false, false, false, false] (by kernel_rfl) rfl rfl ⟨(kC BK306.out 0).trans rfl, (kC BK306.out 1).trans rfl, (kC BK306.out 2).trans rfl, ((HB.out.cell (World.block_lt_of_cell? w _ hw315_0)).trans hw315_0), ((HB.out.cell (World.block_lt_of_cell? w _ hw315_1)).trans hw315_1), ((HB.out.cell (World.block_lt_of_cell? w _ hw315_2)).trans hw315_2)⟩ (fun hHeld => ?_); refine with_tabW mapmakerref14_Check.tab24 mapmakerref14_Check.bits24 (fun HT_ HW_ => ?_)
              generalize wr.drew = w40 at BK306 HB HR315_1 HR315_2 hx315_0 hx315_1 hx315_2 hHeld ⊢
              refine pure_ (i := 1) (N := some 86) (v := ?_) (a' := ?_) (ba 8 2) rfl rfl (any_of HT_.out (by kernel_rfl)) (fun _ _ _ h => h) (Or.inl ⟨by rfl, ?_⟩) ?_ ?_
              rotate_left
              ·intro w'
               go_simp
               with_reducible rfl
              rotate_left
              ·simp only [Act.put, sA, sB, sC, i64_w, i32_w]
               rfl
              refine pure_ (i := 3) (N := some 88) (v := ?_) (a' := ?_) (ba 8 10) rfl rfl (any_of HT_.out (by kernel_rfl)) (fun _ _ _ h => h) (Or.inl ⟨by rfl, ?_⟩) ?_ ?_
              rotate_left
              ·intro w'
               go_simp
               with_reducible rfl
              rotate_left
              ·simp only [Act.put, sA, sB, sC, i64_w, i32_w]
               rfl
              refine take_ (i := 0) (N := some 85) (v := ?_) (a' := ?_) (ba 8 11) rfl rfl (take_ofW HT_.out HW_.out (by kernel_rfl)) (fun _ _ _ h => h) (Or.inl ⟨by rfl, ?_⟩) hHeld ?_ ?_
              rotate_left
              ·rintro w' ⟨s0, s1, s2, s3, s4, s5⟩
               go_simp
               with_reducible rfl
              rotate_left
              ·simp only [Act.put, sA, sB, sC, i64_w, i32_w]
               rfl
              refine take_ (i := 2) (N := some 87) (v := ?_) (a' := ?_) (ba 8 15) rfl rfl (take_ofW HT_.out HW_.out (by kernel_rfl)) (fun _ _ _ h => h) (Or.inl ⟨by rfl, ?_⟩) hHeld ?_ ?_
              rotate_left
              ·rintro w' ⟨s0, s1, s2, s3, s4, s5⟩
               go_simp
               with_reducible rfl
              rotate_left
              ·simp only [Act.put, sA, sB, sC, i64_w, i32_w]
               rfl
              refine pure_ (i := 4) (N := some 89) (v := ?_) (a' := ?_) (ba 8 31) rfl rfl (any_of HT_.out (by kernel_rfl)) (fun _ _ _ h => h) (Or.inl ⟨by rfl, ?_⟩) ?_ ?_
              rotate_left
              ·intro w'
               go_simp
               with_reducible rfl
              rotate_left
              ·simp only [Act.put, sA, sB, sC, i64_w, i32_w]
               rfl
              refine take_ (i := 5) (N := some 90) (v := ?_) (a' := ?_) (ba 8 63) rfl rfl (take_ofW HT_.out HW_.out (by kernel_rfl)) (fun _ _ _ h => h) (Or.inl ⟨by rfl, ?_⟩) hHeld ?_ ?_
              rotate_left
              ·rintro w' ⟨s0, s1, s2, s3, s4, s5⟩
               go_simp
               with_reducible rfl
              rotate_left
              ·simp only [Act.put, sA, sB, sC, i64_w, i32_w]
               rfl
              refine one_ (i := 6) (N := some 91) (ba 8 127) rfl rfl (one_of HT_.out (by kernel_rfl)) (by decide) (fun K hK => ?_)
              refine goes_ Try.func43 (by kernel_rfl) rfl #[.agg #[.slice A0_0 l0_0.length c0_0, .slice A0_1 l0_1.length c0_1, .slice (some ad313) l0_2.length c0_2], .agg #[.int .i64 ((rd_T51 l0_2 x8_3).f0), .slice A315_1 ((rd_T51 l0_2 x8_3).f1).length c315_1, .slice A315_2 ((rd_T51 l0_2 x8_3).f2).length c315_2]] (by rfl) rfl rfl (by (try simp only [List.map_toArray, List.map_cons, List.map_nil]); first | done | rfl | (simp only [List.length_drop, List.length_take]; rfl)) ?_
              with_reducible refine (mapmakerref14_rel.calls k3 _ _ l0_0 _ _ l0_1 _ _ l0_2 ((rd_T51 l0_2 x8_3).f0) _ _ ((rd_T51 l0_2 x8_3).f1) _ _ ((rd_T51 l0_2 x8_3).f2) t316 _ ?side1 ?side2 ?side3 ?side4 ?side5 ?side6 ?side7 ?side8 ?side9 ?side10 A33.out).mono ?_
              (case side1 => repeat (first | exact (Kd.C_below HR0_0.out HB.out) | (with_reducible refine cA ?_ _) | (with_reducible refine cN ?_ _) | (with_reducible refine cD ?_)))
              (case side2 => exact HC0_0.out)
              (case side3 => repeat (first | exact (Kd.C_below HR0_1.out HB.out) | (with_reducible refine cA ?_ _) | (with_reducible refine cN ?_ _) | (with_reducible refine cD ?_)))
              (case side4 => exact HC0_1.out)
              (case side5 => repeat (first | exact (Kd.C_below HR0_2.out HB.out) | (with_reducible refine cA ?_ _) | (with_reducible refine cN ?_ _) | (with_reducible refine cD ?_)))
              (case side6 => exact HC0_2.out)
              (case side7 => repeat (first | exact (Kd.C_below HR315_1.out HB.out) | (with_reducible refine cA ?_ _) | (with_reducible refine cN ?_ _) | (with_reducible refine cD ?_)))
              (case side8 => exact HC315_1.out)
              (case side9 => repeat (first | exact (Kd.C_below HR315_2.out HB.out) | (with_reducible refine cA ?_ _) | (with_reducible refine cN ?_ _) | (with_reducible refine cD ?_)))
              (case side10 => exact HC315_2.out)
              rintro e w41 ⟨rfl, hb⟩
              refine ⟨_, rfl, ?_⟩
              replace BK306 := aM (kB (kl BK306) hb)
              replace HB := aM (bS (bl) hb)
              (try clear hb)
              (try clear hb2)
              (try clear hk)
              (try clear hi)
              refine hK.out _ _ ⟨(kC BK306.out 0).trans rfl, (kC BK306.out 1).trans rfl, (kC BK306.out 2).trans rfl, ((HB.out.cell (World.block_lt_of_cell? w _ hw315_0)).trans hw315_0), ((HB.out.cell (World.block_lt_of_cell? w _ hw315_1)).trans hw315_1), ((HB.out.cell (World.block_lt_of_cell? w _ hw315_2)).trans hw315_2)⟩ (fun hHeld => ?_)
              clear hK K
              refine norm_ (a' := ?_) ?_ ?_
              rotate_left
              ·show Act.put _ (some 91) _ = _
               simp only [Act.put, sA, sB, sC, i64_w, i32_w]
               rfl
              refine pure_ (i := 7) (N := some 10) (v := ?_) (a' := ?_) (ba 8 255) rfl rfl (any_of HT_.out (by kernel_rfl)) (fun _ _ _ h => h) (Or.inl ⟨by rfl, ?_⟩) ?_ ?_
              rotate_left
              ·intro w'
               go_simp
               with_reducible rfl
              rotate_left
              ·simp only [Act.put, sA, sB, sC, i64_w, i32_w]
               rfl
              refine done_ (done_of HT_.out (by kernel_rfl)) ?_
              try go_wp2
              go_ret
              exact ⟨by first | rfl | (simp [errW_none, errW_some] <;> rfl) | (simp [*, errW_none, errW_some] <;> rfl), bl⟩
            ·rw [if_neg c32] at H
             have c32b0 : (t314 == 0) = false := beq_eq_false_iff_ne.mpr c32
             have c32b1 : (t314 != 0) = true := bne_iff_ne.mpr c32
             obtain rfl := Option.some.inj H
             have hcz42_0 : wr.cell? ⟨gb306, 0, none⟩ = some (.slice A0_0 l0_0.length c0_0) := (kC BK306.out 0).trans rfl
             have hcz42_1 : wr.cell? ⟨gb306, 1, none⟩ = some (.slice A0_1 l0_1.length c0_1) := (kC BK306.out 1).trans rfl
             have hcz42_2 : wr.cell? ⟨gb306, 2, none⟩ = some (.slice A0_2 l0_2.length c0_2) := (kC BK306.out 2).trans rfl
             have hfz42_0 := kF BK306.out 0
             have hfz42_1 := kF BK306.out 1
             have hfz42_2 := kF BK306.out 2
             have p313 : 0 ≤ (x8_3 : Int) := oT
             have q313 : x8_3 < (l0_2.length : Int) := oT
             obtain ⟨ad313, A313_1, c313_1, A313_2, c313_2, e313, hx313_0, hx313_1, hx313_2, hl313_1, hi313_1, hl313_2, hi313_2⟩ := at_T51 HR0_2.out x8_3 p313 q313
             cases e313
             replace hx313_0 := hs HB.out hx313_0
             replace hx313_1 := hs HB.out hx313_1
             replace hx313_2 := hs HB.out hx313_2
             have HR313_1 := aM hi313_1
             have HC313_1 := aM hl313_1
             clear hi313_1 hl313_1
             have HR313_2 := aM hi313_2
             have HC313_2 := aM hl313_2
             clear hi313_2 hl313_2
             replace p313 := eq_true p313
             replace q313 := eq_true q313
             go_wp2_with (first | ((with_reducible refine gate_callee (f := 41) rfl ?_); refine gL (some 81) Try.func41 #[.int .i64 ((rd_T51 l0_2 x8_3).f0), .int .i64 x4_3] ?_; (with_reducible refine (mapmakerref14_id.calls k3 ((rd_T51 l0_2 x8_3).f0) x4_3 t314 _ A31.out).mono ?_); rintro e w' ⟨rfl, ⟨nd, rfl⟩⟩; refine ⟨_, rfl, ?_⟩))
             go_ret
             exact ⟨by first | rfl | (simp [errW_none, errW_some] <;> rfl) | (simp [*, errW_none, errW_some] <;> rfl), bl⟩
           ·rw [if_neg c30] at H
            exact absurd H (by simp)
          ·rw [if_neg c29] at H
           have c29b0 : decide (x8_3 < (l0_2.length : Int)) = false := decide_eq_false c29
           clear c29
           obtain rfl := Option.some.inj H
           have hcz43_0 : wr.cell? ⟨gb306, 0, none⟩ = some (.slice A0_0 l0_0.length c0_0) := (kC BK306.out 0).trans rfl
           have hcz43_1 : wr.cell? ⟨gb306, 1, none⟩ = some (.slice A0_1 l0_1.length c0_1) := (kC BK306.out 1).trans rfl
           have hcz43_2 : wr.cell? ⟨gb306, 2, none⟩ = some (.slice A0_2 l0_2.length c0_2) := (kC BK306.out 2).trans rfl
           have hfz43_0 := kF BK306.out 0
           have hfz43_1 := kF BK306.out 1
           have hfz43_2 := kF BK306.out 2
           go_wp2
           go_ret
           exact ⟨by first | rfl | (simp [errW_none, errW_some] <;> rfl) | (simp [*, errW_none, errW_some] <;> rfl), bl⟩
    ·rw [if_neg c11] at H
     have c11b0 : (t307 == 0) = false := beq_eq_false_iff_ne.mpr c11
     have c11b1 : (t307 != 0) = true := bne_iff_ne.mpr c11
     obtain rfl := Option.some.inj H
     have hcz44_0 : wc.cell? ⟨gb306, 0, none⟩ = some (.slice A0_0 l0_0.length c0_0) := (kC BK306.out 0).trans rfl
     have hcz44_1 : wc.cell? ⟨gb306, 1, none⟩ = some (.slice A0_1 l0_1.length c0_1) := (kC BK306.out 1).trans rfl
     have hcz44_2 : wc.cell? ⟨gb306, 2, none⟩ = some (.slice A0_2 l0_2.length c0_2) := (kC BK306.out 2).trans rfl
     have hfz44_0 := kF BK306.out 0
     have hfz44_1 := kF BK306.out 1
     have hfz44_2 := kF BK306.out 2
     go_wp2_with (first | ((with_reducible refine gate_callee (f := 40) rfl ?_); refine gL (some 29) Try.func40 #[.slice A0_0 l0_0.length c0_0] ?_; (with_reducible refine (mapmakerref14_nodes.calls kj1 _ _ l0_0 t307 _ ?side1 ?side2 A10.out).mono ?_); (case side1 => repeat (first | exact (Kd.C_below HR0_0.out HB.out) | (with_reducible refine cA ?_ _) | (with_reducible refine cN ?_ _) | (with_reducible refine cD ?_))); (case side2 => exact HC0_0.out); rintro e w45 ⟨rfl, hb⟩; refine ⟨_, rfl, ?_⟩; replace BK306 := aM (kB (kl BK306) hb); replace HB := aM (bS (bl) hb); (try clear hb); (try clear hb2); (try clear hk); (try clear hi)))
     go_ret
     exact ⟨by first | rfl | (simp [errW_none, errW_some] <;> rfl) | (simp [*, errW_none, errW_some] <;> rfl), bl⟩
end Go.Proofs.Ytgenbepicnbecaa.PAll
