-- out of a driver of this session's prover over the kit's print: Lean checks it
import Derived.Test.YtefambkodalomaaPAllx0
import Derived.Test.YtefambkodalomaaPAllx14
namespace Go.Proofs.Ytefambkodalomaa.PAll
open Go.Proofs.YtefambkodalomaaG Go.Shelf Go.Lib
open Go.RowKit Go.Proofs.YtefambkodalomaaW.PrintWords Go.Proofs.YtefambkodalomaaW.PrintLast Go.Proofs.YtefambkodalomaaW.PrintMore
attribute [local go_sem] max2_int min2_int max_two min_two max_three min_three max_four min_four   -- for this text's walks alone
set_option linter.unusedVariables false
set_option linter.unusedSimpArgs false
mutual
def mapmakerlaw19_Few.j0 : Nat → Bool → List (S53) → List (S56) → List (S59) → Option (Bool)
 | 0, _, _, _, _ => none
 | k + 1, x22, x498000, x498001, x498002 => if x22 = true then (some false) else (mapmakerlaw19_Few.l0 k 0 x498000 x498001 x498002)
def mapmakerlaw19_Few.l0 : Nat → Int → List (S53) → List (S56) → List (S59) → Option (Bool)
 | 0, _, _, _, _ => none
 | k + 1, x3, x498000, x498001, x498002 => if x3 < (x498000.length : Int) then (if 0 ≤ x3 then ((mapmakerlaw19_tags.f k ((rd_T53 x498000 x3).f2)).bind fun t499 => (if t499 = true then (mapmakerlaw19_Few.l0 k (wrap64 (x3 + 1)) x498000 x498001 x498002) else (some false))) else (none)) else (mapmakerlaw19_Few.l1 k 0 x498000 x498001 x498002)
def mapmakerlaw19_Few.l1 : Nat → Int → List (S53) → List (S56) → List (S59) → Option (Bool)
 | 0, _, _, _, _ => none
 | k + 1, x4, x498000, x498001, x498002 => if x4 < (x498001.length : Int) then (if 0 ≤ x4 then (if (((rd_T56 x498001 x4).f1).length : Int) > 12 then (some false) else ((mapmakerlaw19_tags.f k ((rd_T56 x498001 x4).f2)).bind fun t502 => (if t502 = true then (mapmakerlaw19_Few.l1 k (wrap64 (x4 + 1)) x498000 x498001 x498002) else (some false)))) else (none)) else (mapmakerlaw19_Few.l2 k 0 x498000 x498001 x498002)
def mapmakerlaw19_Few.l2 : Nat → Int → List (S53) → List (S56) → List (S59) → Option (Bool)
 | 0, _, _, _, _ => none
 | k + 1, x5, x498000, x498001, x498002 => if x5 < (x498002.length : Int) then (if 0 ≤ x5 then (if (((rd_T59 x498002 x5).f1).length : Int) > 8 then (mapmakerlaw19_Few.j4 k x5 true x498000 x498001 x498002) else ((mapmakerlaw19_tags.f k ((rd_T59 x498002 x5).f2)).bind fun t505 => (mapmakerlaw19_Few.j4 k x5 (!t505) x498000 x498001 x498002))) else (none)) else (some true)
def mapmakerlaw19_Few.j4 : Nat → Int → Bool → List (S53) → List (S56) → List (S59) → Option (Bool)
 | 0, _, _, _, _, _ => none
 | k + 1, x5, x87, x498000, x498001, x498002 => if x87 = true then (some false) else (mapmakerlaw19_Few.l3 k x5 0 x498000 x498001 x498002)
def mapmakerlaw19_Few.l3 : Nat → Int → Int → List (S53) → List (S56) → List (S59) → Option (Bool)
 | 0, _, _, _, _, _ => none
 | k + 1, x5, x6, x498000, x498001, x498002 => if 0 ≤ x5 then (if x5 < (x498002.length : Int) then (if x6 < (((rd_T59 x498002 x5).f1).length : Int) then (if 0 ≤ x6 then (if (((rd_T63 ((rd_T59 x498002 x5).f1) x6).f1).size : Int) > 200 then (some false) else (mapmakerlaw19_Few.l3 k x5 (wrap64 (x6 + 1)) x498000 x498001 x498002)) else (none)) else (mapmakerlaw19_Few.l2 k (wrap64 (x5 + 1)) x498000 x498001 x498002)) else (none)) else (none)
end
def mapmakerlaw19_Few.f (k : Nat) (l0_0 : List (S53)) (l0_1 : List (S56)) (l0_2 : List (S59)) : Option (Bool) := if (l0_0.length : Int) > 20 then (mapmakerlaw19_Few.j0 k true l0_0 l0_1 l0_2) else (if (l0_1.length : Int) > 12 then (mapmakerlaw19_Few.j0 k true l0_0 l0_1 l0_2) else (mapmakerlaw19_Few.j0 k (decide ((l0_2.length : Int) > 8)) l0_0 l0_1 l0_2))
theorem mapmakerlaw19_Few.mono_l : ∀ k, (∀ y0 y1 y2 y3, LeO (mapmakerlaw19_Few.j0 k y0 y1 y2 y3) (mapmakerlaw19_Few.j0 (k + 1) y0 y1 y2 y3)) ∧ (∀ y0 y1 y2 y3, LeO (mapmakerlaw19_Few.l0 k y0 y1 y2 y3) (mapmakerlaw19_Few.l0 (k + 1) y0 y1 y2 y3)) ∧ (∀ y0 y1 y2 y3, LeO (mapmakerlaw19_Few.l1 k y0 y1 y2 y3) (mapmakerlaw19_Few.l1 (k + 1) y0 y1 y2 y3)) ∧ (∀ y0 y1 y2 y3, LeO (mapmakerlaw19_Few.l2 k y0 y1 y2 y3) (mapmakerlaw19_Few.l2 (k + 1) y0 y1 y2 y3)) ∧ (∀ y0 y1 y2 y3 y4, LeO (mapmakerlaw19_Few.j4 k y0 y1 y2 y3 y4) (mapmakerlaw19_Few.j4 (k + 1) y0 y1 y2 y3 y4)) ∧ (∀ y0 y1 y2 y3 y4, LeO (mapmakerlaw19_Few.l3 k y0 y1 y2 y3 y4) (mapmakerlaw19_Few.l3 (k + 1) y0 y1 y2 y3 y4))
 | 0 => ⟨fun _ _ _ _ r h => by simp [mapmakerlaw19_Few.j0] at h, fun _ _ _ _ r h => by simp [mapmakerlaw19_Few.l0] at h, fun _ _ _ _ r h => by simp [mapmakerlaw19_Few.l1] at h, fun _ _ _ _ r h => by simp [mapmakerlaw19_Few.l2] at h, fun _ _ _ _ _ r h => by simp [mapmakerlaw19_Few.j4] at h, fun _ _ _ _ _ r h => by simp [mapmakerlaw19_Few.l3] at h⟩
 | k + 1 => by
  obtain ⟨ih0, ih1, ih2, ih3, ih4, ih5⟩ := mapmakerlaw19_Few.mono_l k
  refine ⟨?_, ?_, ?_, ?_, ?_, ?_⟩
  ·intro y0 y1 y2 y3
   unfold mapmakerlaw19_Few.j0
   repeat' first
   | (with_reducible exact ih0 _ _ _ _)
   | (with_reducible exact ih1 _ _ _ _)
   | (with_reducible exact ih2 _ _ _ _)
   | (with_reducible exact ih3 _ _ _ _)
   | (with_reducible exact ih4 _ _ _ _ _)
   | (with_reducible exact ih5 _ _ _ _ _)
   | (with_reducible exact mapmakerlaw19_tags.mono _ _)
   | (with_reducible exact LeO.refl _)
   | (with_reducible exact LeO.none _)
   | (with_reducible refine LeO.ite ?_ ?_)
   | (with_reducible refine LeO.eB ?_ (fun _ => ?_))
   | (with_reducible refine LeO.bind ?_ (fun _ => ?_))
   | exact ih0 _ _ _ _
   | exact ih1 _ _ _ _
   | exact ih2 _ _ _ _
   | exact ih3 _ _ _ _
   | exact ih4 _ _ _ _ _
   | exact ih5 _ _ _ _ _
   | exact mapmakerlaw19_tags.mono _ _
   | exact LeO.none _
   | refine LeO.ite ?_ ?_
   | refine LeO.bind ?_ (fun _ => ?_)
  ·intro y0 y1 y2 y3
   unfold mapmakerlaw19_Few.l0
   repeat' first
   | (with_reducible exact ih0 _ _ _ _)
   | (with_reducible exact ih1 _ _ _ _)
   | (with_reducible exact ih2 _ _ _ _)
   | (with_reducible exact ih3 _ _ _ _)
   | (with_reducible exact ih4 _ _ _ _ _)
   | (with_reducible exact ih5 _ _ _ _ _)
   | (with_reducible exact mapmakerlaw19_tags.mono _ _)
   | (with_reducible exact LeO.refl _)
   | (with_reducible exact LeO.none _)
   | (with_reducible refine LeO.ite ?_ ?_)
   | (with_reducible refine LeO.eB ?_ (fun _ => ?_))
   | (with_reducible refine LeO.bind ?_ (fun _ => ?_))
   | exact ih0 _ _ _ _
   | exact ih1 _ _ _ _
   | exact ih2 _ _ _ _
   | exact ih3 _ _ _ _
   | exact ih4 _ _ _ _ _
   | exact ih5 _ _ _ _ _
   | exact mapmakerlaw19_tags.mono _ _
   | exact LeO.none _
   | refine LeO.ite ?_ ?_
   | refine LeO.bind ?_ (fun _ => ?_)
  ·intro y0 y1 y2 y3
   unfold mapmakerlaw19_Few.l1
   repeat' first
   | (with_reducible exact ih0 _ _ _ _)
   | (with_reducible exact ih1 _ _ _ _)
   | (with_reducible exact ih2 _ _ _ _)
   | (with_reducible exact ih3 _ _ _ _)
   | (with_reducible exact ih4 _ _ _ _ _)
   | (with_reducible exact ih5 _ _ _ _ _)
   | (with_reducible exact mapmakerlaw19_tags.mono _ _)
   | (with_reducible exact LeO.refl _)
   | (with_reducible exact LeO.none _)
   | (with_reducible refine LeO.ite ?_ ?_)
   | (with_reducible refine LeO.eB ?_ (fun _ => ?_))
   | (with_reducible refine LeO.bind ?_ (fun _ => ?_))
   | exact ih0 _ _ _ _
   | exact ih1 _ _ _ _
   | exact ih2 _ _ _ _
   | exact ih3 _ _ _ _
   | exact ih4 _ _ _ _ _
   | exact ih5 _ _ _ _ _
   | exact mapmakerlaw19_tags.mono _ _
   | exact LeO.none _
   | refine LeO.ite ?_ ?_
   | refine LeO.bind ?_ (fun _ => ?_)
  ·intro y0 y1 y2 y3
   unfold mapmakerlaw19_Few.l2
   repeat' first
   | (with_reducible exact ih0 _ _ _ _)
   | (with_reducible exact ih1 _ _ _ _)
   | (with_reducible exact ih2 _ _ _ _)
   | (with_reducible exact ih3 _ _ _ _)
   | (with_reducible exact ih4 _ _ _ _ _)
   | (with_reducible exact ih5 _ _ _ _ _)
   | (with_reducible exact mapmakerlaw19_tags.mono _ _)
   | (with_reducible exact LeO.refl _)
   | (with_reducible exact LeO.none _)
   | (with_reducible refine LeO.ite ?_ ?_)
   | (with_reducible refine LeO.eB ?_ (fun _ => ?_))
   | (with_reducible refine LeO.bind ?_ (fun _ => ?_))
   | exact ih0 _ _ _ _
   | exact ih1 _ _ _ _
   | exact ih2 _ _ _ _
   | exact ih3 _ _ _ _
   | exact ih4 _ _ _ _ _
   | exact ih5 _ _ _ _ _
   | exact mapmakerlaw19_tags.mono _ _
   | exact LeO.none _
   | refine LeO.ite ?_ ?_
   | refine LeO.bind ?_ (fun _ => ?_)
  ·intro y0 y1 y2 y3 y4
   unfold mapmakerlaw19_Few.j4
   repeat' first
   | (with_reducible exact ih0 _ _ _ _)
   | (with_reducible exact ih1 _ _ _ _)
   | (with_reducible exact ih2 _ _ _ _)
   | (with_reducible exact ih3 _ _ _ _)
   | (with_reducible exact ih4 _ _ _ _ _)
   | (with_reducible exact ih5 _ _ _ _ _)
   | (with_reducible exact mapmakerlaw19_tags.mono _ _)
   | (with_reducible exact LeO.refl _)
   | (with_reducible exact LeO.none _)
   | (with_reducible refine LeO.ite ?_ ?_)
   | (with_reducible refine LeO.eB ?_ (fun _ => ?_))
   | (with_reducible refine LeO.bind ?_ (fun _ => ?_))
   | exact ih0 _ _ _ _
   | exact ih1 _ _ _ _
   | exact ih2 _ _ _ _
   | exact ih3 _ _ _ _
   | exact ih4 _ _ _ _ _
   | exact ih5 _ _ _ _ _
   | exact mapmakerlaw19_tags.mono _ _
   | exact LeO.none _
   | refine LeO.ite ?_ ?_
   | refine LeO.bind ?_ (fun _ => ?_)
  ·intro y0 y1 y2 y3 y4
   unfold mapmakerlaw19_Few.l3
   repeat' first
   | (with_reducible exact ih0 _ _ _ _)
   | (with_reducible exact ih1 _ _ _ _)
   | (with_reducible exact ih2 _ _ _ _)
   | (with_reducible exact ih3 _ _ _ _)
   | (with_reducible exact ih4 _ _ _ _ _)
   | (with_reducible exact ih5 _ _ _ _ _)
   | (with_reducible exact mapmakerlaw19_tags.mono _ _)
   | (with_reducible exact LeO.refl _)
   | (with_reducible exact LeO.none _)
   | (with_reducible refine LeO.ite ?_ ?_)
   | (with_reducible refine LeO.eB ?_ (fun _ => ?_))
   | (with_reducible refine LeO.bind ?_ (fun _ => ?_))
   | exact ih0 _ _ _ _
   | exact ih1 _ _ _ _
   | exact ih2 _ _ _ _
   | exact ih3 _ _ _ _
   | exact ih4 _ _ _ _ _
   | exact ih5 _ _ _ _ _
   | exact mapmakerlaw19_tags.mono _ _
   | exact LeO.none _
   | refine LeO.ite ?_ ?_
   | refine LeO.bind ?_ (fun _ => ?_)
theorem mapmakerlaw19_Few.mono : ∀ a0 a1 a2 k, LeO (mapmakerlaw19_Few.f k a0 a1 a2) (mapmakerlaw19_Few.f (k + 1) a0 a1 a2) := by
 intro a0 a1 a2 k; obtain ⟨ih0, ih1, ih2, ih3, ih4, ih5⟩ := mapmakerlaw19_Few.mono_l k; unfold mapmakerlaw19_Few.f
 repeat' first
   | (with_reducible exact ih0 _ _ _ _)
   | (with_reducible exact ih1 _ _ _ _)
   | (with_reducible exact ih2 _ _ _ _)
   | (with_reducible exact ih3 _ _ _ _)
   | (with_reducible exact ih4 _ _ _ _ _)
   | (with_reducible exact ih5 _ _ _ _ _)
   | (with_reducible exact mapmakerlaw19_tags.mono _ _)
   | (with_reducible exact LeO.refl _)
   | (with_reducible exact LeO.none _)
   | (with_reducible refine LeO.ite ?_ ?_)
   | (with_reducible refine LeO.eB ?_ (fun _ => ?_))
   | (with_reducible refine LeO.bind ?_ (fun _ => ?_))
   | exact ih0 _ _ _ _
   | exact ih1 _ _ _ _
   | exact ih2 _ _ _ _
   | exact ih3 _ _ _ _
   | exact ih4 _ _ _ _ _
   | exact ih5 _ _ _ _ _
   | exact mapmakerlaw19_tags.mono _ _
   | exact LeO.none _
   | refine LeO.ite ?_ ?_
   | refine LeO.bind ?_ (fun _ => ?_)
set_option maxHeartbeats 8000000 in
set_option maxRecDepth 100000 in
theorem mapmakerlaw19_Few.calls (k : Nat) (A0_0 : Option Addr) (c0_0 : Nat) (l0_0 : List (S53)) (A0_1 : Option Addr) (c0_1 : Nat) (l0_1 : List (S56)) (A0_2 : Option Addr) (c0_2 : Nat) (l0_2 : List (S59)) (r : Bool) (w : World) (hr0_0 : Kd.C k53 w A0_0 l0_0.length l0_0) (hc0_0 : l0_0.length ≤ c0_0) (hr0_1 : Kd.C k56 w A0_1 l0_1.length l0_1) (hc0_1 : l0_1.length ≤ c0_1) (hr0_2 : Kd.C k59 w A0_2 l0_2.length l0_2) (hc0_2 : l0_2.length ≤ c0_2) (h : mapmakerlaw19_Few.f k l0_0 l0_1 l0_2 = some r) :
  Calls Try.prog 10 #[.agg #[.slice A0_0 l0_0.length c0_0, .slice A0_1 l0_1.length c0_1, .slice A0_2 l0_2.length c0_2]] w fun e w' => e = .returned (.bool r) ∧ Below w.heap.size w w' := by
 have hu26 := Try.underlying26; have HR0_0 := aM hr0_0; have HC0_0 := aM hc0_0; clear hr0_0 hc0_0; have HR0_1 := aM hr0_1; have HC0_1 := aM hc0_1; clear hr0_1 hc0_1; have HR0_2 := aM hr0_2; have HC0_2 := aM hc0_2; clear hr0_2 hc0_2; have HB := aM (Below.refl w.heap.size w); have H : (if (l0_0.length : Int) > 20 then (mapmakerlaw19_Few.j0 k true l0_0 l0_1 l0_2) else (if (l0_1.length : Int) > 12 then (mapmakerlaw19_Few.j0 k true l0_0 l0_1 l0_2) else (mapmakerlaw19_Few.j0 k (decide ((l0_2.length : Int) > 8)) l0_0 l0_1 l0_2))) = some r := h; clear h; have HC2 := aM H; clear H; go_enter Try.func10, Try.ntmps10
 go_upto_region 1 with (first | ((with_reducible refine gate_dst (N := 1) rfl ?_); (try (refine gate_guard (by rfl) ?_; dsimp only)); refine bx (N := 1) (cs := #[.slice A0_0 l0_0.length c0_0, .slice A0_1 l0_1.length c0_1, .slice A0_2 l0_2.length c0_2]) (t := 26) ?_; intro gb497 hg w3 hbox hb; have BK497 := aM (hbox); have GE497 := aM (gw (w := w) hg); replace HB := aM (bS (bl) hb); clear hb hbox hg))
 (try simp only [Act.put, sA, sB, sC])
 go_cut [22] (fun v22 wc => ∃ (kq : Nat) (x22_1 : Bool), v22 = .bool x22_1 ∧ Aside0 (mapmakerlaw19_Few.j0 kq x22_1 l0_0 l0_1 l0_2 = some r) ∧ Aside0 (kq ≤ k) ∧ Aside0 (wc.heap[gb497]? = some (.cells #[(.slice A0_0 l0_0.length c0_0), (.slice A0_1 l0_1.length c0_1), (.slice A0_2 l0_2.length c0_2)] 26 (0, 0))) ∧ Aside0 (Below w.heap.size w wc))
 case first =>
  have H := HC2.out; clear HC2
  by_cases c4 : (l0_0.length : Int) > 20
  ·rw [if_pos c4] at H; have c4b0 : decide (20 < (l0_0.length : Int)) = true := decide_eq_true c4; have c4b1 : decide (20 < l0_0.length) = true := decide_eq_true (by omega); clear c4
   (first | rw [c4b0] | (simp only [i64_w, i32_w]; rw [c4b0]) | skip)
   have H' := aM H; clear H; have hz5 := bc3 BK497
   go_wp2
   go_meet
   case rel => exact ⟨_, (true), (by first | rfl | (simp; done) | (simp [*]; done)), H', ⟨by first | omega | exact Nat.le_refl _⟩, ⟨kl BK497⟩, ⟨bl⟩⟩
  ·rw [if_neg c4] at H; have c4b0 : decide (20 < (l0_0.length : Int)) = false := decide_eq_false c4; have c4b1 : decide (20 < l0_0.length) = false := decide_eq_false (by omega); clear c4
   (first | rw [c4b0] | (simp only [i64_w, i32_w]; rw [c4b0]) | skip)
   by_cases c6 : (l0_1.length : Int) > 12
   ·rw [if_pos c6] at H; have c6b0 : decide (12 < (l0_1.length : Int)) = true := decide_eq_true c6; have c6b1 : decide (12 < l0_1.length) = true := decide_eq_true (by omega); clear c6; have H' := aM H; clear H; have hz7 := bc3 BK497
    go_wp2
    go_meet
    case rel => exact ⟨_, (true), (by first | rfl | (simp; done) | (simp [*]; done)), H', ⟨by first | omega | exact Nat.le_refl _⟩, ⟨kl BK497⟩, ⟨bl⟩⟩
   ·rw [if_neg c6] at H; have c6b0 : decide (12 < (l0_1.length : Int)) = false := decide_eq_false c6; have c6b1 : decide (12 < l0_1.length) = false := decide_eq_false (by omega); clear c6; have H' := aM H; clear H; have hz8 := bc3 BK497
    go_wp2
    go_meet
    case rel => exact ⟨_, (decide ((l0_2.length : Int) > 8)), (by first | rfl | (simp; done) | (simp [*]; done)), H', ⟨by first | omega | exact Nat.le_refl _⟩, ⟨kl BK497⟩, ⟨bl⟩⟩
 case rest =>
  clear HC2; (try clear c4); (try clear c4b0); (try clear c4b1); (try clear c6); (try clear c6b0); (try clear c6b1); (try clear hz5); (try clear hz7); (try clear hz8); obtain ⟨kq, x22_1, rfl, HA, HJ1, BK497, HB⟩ := hcut
  cases kq with
  | zero => exact absurd HA.out (by simp [mapmakerlaw19_Few.j0])
  | succ kj1 =>
   have H := HA.out; clear HA; simp only [mapmakerlaw19_Few.j0] at H
   by_cases c9 : x22_1 = true
   ·subst c9; have H1 : (some false) = some r := by rw [if_pos rfl] at H; exact H
    clear H; have H := H1; clear H1; obtain rfl := Option.some.inj H
    go_wp2
    go_ret; exact ⟨by first | rfl | (simp [errW_none, errW_some] <;> rfl) | (simp [*, errW_none, errW_some] <;> rfl), bl⟩
   ·replace c9 := Bool.eq_false_iff.mpr c9; subst c9; have H1 : (mapmakerlaw19_Few.l0 kj1 0 l0_0 l0_1 l0_2) = some r := by rw [if_neg (show ¬ (false = true) by decide)] at H; exact H
    clear H; have H := H1; clear H1; have H' := aM H; clear H
    go_wp2
    go_loopg [3] kj1 (fun kq v3 w' => ∃ (x3_2 : Int), v3 = .int .i64 x3_2 ∧ Aside0 (mapmakerlaw19_Few.l0 kq x3_2 l0_0 l0_1 l0_2 = some r) ∧ Aside0 (kq ≤ kj1) ∧ Aside0 (w'.heap[gb497]? = some (.cells #[(.slice A0_0 l0_0.length c0_0), (.slice A0_1 l0_1.length c0_1), (.slice A0_2 l0_2.length c0_2)] 26 (0, 0))) ∧ Aside0 (Below w.heap.size w w'))
    case atStart => exact ⟨(0), (by first | rfl | (simp; done) | (simp [*]; done)), H', ⟨Nat.le_refl _⟩, ⟨kl BK497⟩, ⟨bl⟩⟩
    case round =>
     clear H'; (try clear c4); (try clear c4b0); (try clear c4b1); (try clear c6); (try clear c6b0); (try clear c6b1); (try clear c9); (try clear hz5); (try clear hz7); (try clear hz8); obtain ⟨x3_2, rfl, HA, HK2, BK497, HB⟩ := hrel
     cases gk with
     | zero => exact absurd HA.out (by simp [mapmakerlaw19_Few.l0])
     | succ k2 =>
      have H := HA.out; clear HA; simp only [mapmakerlaw19_Few.l0] at H
      by_cases c10 : x3_2 < (l0_0.length : Int)
      ·rw [if_pos c10] at H; have c10b0 : decide (x3_2 < (l0_0.length : Int)) = true := decide_eq_true c10; clear c10
       by_cases c11 : 0 ≤ x3_2
       ·rw [if_pos c11] at H; have c11b0 : decide (0 ≤ x3_2) = true := decide_eq_true c11; clear c11; replace H := Option.bind_eq_some_iff.mp H; obtain ⟨t499, A120, H⟩ := H; (try dsimp only at H); have A12 := aM A120; clear A120
        by_cases c13 : t499 = true
        ·subst c13; have H1 : (mapmakerlaw19_Few.l0 k2 (wrap64 (x3_2 + 1)) l0_0 l0_1 l0_2) = some r := by rw [if_pos rfl] at H; exact H
         clear H; have H := H1; clear H1; have H' := aM H; clear H; have hz14 := bc3 BK497; have p498 : 0 ≤ (x3_2 : Int) := oT; have q498 : x3_2 < (l0_0.length : Int) := oT; obtain ⟨ad498, A498_3, c498_3, e498, hx498_0, hx498_1, hx498_2, hx498_3, hl498_3, hi498_3⟩ := at_T53 HR0_0.out x3_2 p498 q498; cases e498
         replace hx498_0 := hs HB.out hx498_0; replace hx498_1 := hs HB.out hx498_1; replace hx498_2 := hs HB.out hx498_2; replace hx498_3 := hs HB.out hx498_3; have HR498_3 := aM hi498_3; have HC498_3 := aM hl498_3; clear hi498_3 hl498_3; replace p498 := eq_true p498; replace q498 := eq_true q498
         go_wp2_with (first | ((with_reducible refine gate_callee (f := 26) rfl ?_); refine gL (some 36) Try.func26 #[.slice A498_3 ((rd_T53 l0_0 x3_2).f2).length c498_3] ?_; (with_reducible refine (mapmakerlaw19_tags.calls k2 _ _ ((rd_T53 l0_0 x3_2).f2) true _ ?side1 ?side2 A12.out).mono ?_); (case side1 => exact cl HR498_3); (case side2 => exact HC498_3.out); rintro e w' ⟨rfl, ⟨nd, rfl⟩⟩; refine ⟨_, rfl, ?_⟩))
         go_roundg k2
         case measure => have := HJ1.out; have := HK2.out; omega
         case rel => exact ⟨(wrap64 (x3_2 + 1)), (by first | rfl | (simp; done) | (simp [*]; done)), H', ⟨by have := HJ1.out; have := HK2.out; omega⟩, ⟨kl BK497⟩, ⟨bl⟩⟩
        ·replace c13 := Bool.eq_false_iff.mpr c13; subst c13; have H1 : (some false) = some r := by rw [if_neg (show ¬ (false = true) by decide)] at H; exact H
         clear H; have H := H1; clear H1; obtain rfl := Option.some.inj H; have hz15 := bc3 BK497; have p498 : 0 ≤ (x3_2 : Int) := oT; have q498 : x3_2 < (l0_0.length : Int) := oT; obtain ⟨ad498, A498_3, c498_3, e498, hx498_0, hx498_1, hx498_2, hx498_3, hl498_3, hi498_3⟩ := at_T53 HR0_0.out x3_2 p498 q498; cases e498
         replace hx498_0 := hs HB.out hx498_0; replace hx498_1 := hs HB.out hx498_1; replace hx498_2 := hs HB.out hx498_2; replace hx498_3 := hs HB.out hx498_3; have HR498_3 := aM hi498_3; have HC498_3 := aM hl498_3; clear hi498_3 hl498_3; replace p498 := eq_true p498; replace q498 := eq_true q498
         go_wp2_with (first | ((with_reducible refine gate_callee (f := 26) rfl ?_); refine gL (some 36) Try.func26 #[.slice A498_3 ((rd_T53 l0_0 x3_2).f2).length c498_3] ?_; (with_reducible refine (mapmakerlaw19_tags.calls k2 _ _ ((rd_T53 l0_0 x3_2).f2) false _ ?side1 ?side2 A12.out).mono ?_); (case side1 => exact cl HR498_3); (case side2 => exact HC498_3.out); rintro e w' ⟨rfl, ⟨nd, rfl⟩⟩; refine ⟨_, rfl, ?_⟩))
         go_ret; exact ⟨by first | rfl | (simp [errW_none, errW_some] <;> rfl) | (simp [*, errW_none, errW_some] <;> rfl), bl⟩
       ·rw [if_neg c11] at H; exact absurd H (by simp)
      ·rw [if_neg c10] at H; have c10b0 : decide (x3_2 < (l0_0.length : Int)) = false := decide_eq_false c10; clear c10; have H' := aM H; clear H; have hz16 := bc3 BK497
       go_wp2
       go_loopg [4] k2 (fun kq v4 w' => ∃ (x4_3 : Int), v4 = .int .i64 x4_3 ∧ Aside0 (mapmakerlaw19_Few.l1 kq x4_3 l0_0 l0_1 l0_2 = some r) ∧ Aside0 (kq ≤ k2) ∧ Aside0 (w'.heap[gb497]? = some (.cells #[(.slice A0_0 l0_0.length c0_0), (.slice A0_1 l0_1.length c0_1), (.slice A0_2 l0_2.length c0_2)] 26 (0, 0))) ∧ Aside0 (Below w.heap.size w w'))
       case atStart => exact ⟨(0), (by first | rfl | (simp; done) | (simp [*]; done)), H', ⟨Nat.le_refl _⟩, ⟨kl BK497⟩, ⟨bl⟩⟩
       case round =>
        clear H'; (try clear c4); (try clear c4b0); (try clear c4b1); (try clear c6); (try clear c6b0); (try clear c6b1); (try clear c9); (try clear c10); (try clear c10b0); (try clear c11); (try clear c11b0); (try clear c13); (try clear hz14); (try clear hz15); (try clear hz16); (try clear hz5); (try clear hz7); (try clear hz8); (try clear hx498_0); (try clear hx498_1); (try clear hx498_2); (try clear hx498_3); (try clear p498); (try clear q498); obtain ⟨x4_3, rfl, HA, HK3, BK497, HB⟩ := hrel
        cases gk with
        | zero => exact absurd HA.out (by simp [mapmakerlaw19_Few.l1])
        | succ k3 =>
         have H := HA.out; clear HA; simp only [mapmakerlaw19_Few.l1] at H
         by_cases c17 : x4_3 < (l0_1.length : Int)
         ·rw [if_pos c17] at H; have c17b0 : decide (x4_3 < (l0_1.length : Int)) = true := decide_eq_true c17; clear c17
          by_cases c18 : 0 ≤ x4_3
          ·rw [if_pos c18] at H; have c18b0 : decide (0 ≤ x4_3) = true := decide_eq_true c18; clear c18
           by_cases c19 : (((rd_T56 l0_1 x4_3).f1).length : Int) > 12
           ·rw [if_pos c19] at H; have c19b0 : decide (12 < (((rd_T56 l0_1 x4_3).f1).length : Int)) = true := decide_eq_true c19; have c19b1 : decide (12 < ((rd_T56 l0_1 x4_3).f1).length) = true := decide_eq_true (by omega); clear c19; obtain rfl := Option.some.inj H; have hz20 := bc3 BK497; have p500 : 0 ≤ (x4_3 : Int) := oT; have q500 : x4_3 < (l0_1.length : Int) := oT; obtain ⟨ad500, A500_1, c500_1, A500_2, c500_2, e500, hx500_0, hx500_1, hx500_2, hl500_1, hi500_1, hl500_2, hi500_2⟩ := at_T56 HR0_1.out x4_3 p500 q500; cases e500
            replace hx500_0 := hs HB.out hx500_0; replace hx500_1 := hs HB.out hx500_1; replace hx500_2 := hs HB.out hx500_2; have HR500_1 := aM hi500_1; have HC500_1 := aM hl500_1; clear hi500_1 hl500_1; have HR500_2 := aM hi500_2; have HC500_2 := aM hl500_2; clear hi500_2 hl500_2; replace p500 := eq_true p500; replace q500 := eq_true q500
            go_wp2
            go_ret; exact ⟨by first | rfl | (simp [errW_none, errW_some] <;> rfl) | (simp [*, errW_none, errW_some] <;> rfl), bl⟩
           ·rw [if_neg c19] at H; have c19b0 : decide (12 < (((rd_T56 l0_1 x4_3).f1).length : Int)) = false := decide_eq_false c19; have c19b1 : decide (12 < ((rd_T56 l0_1 x4_3).f1).length) = false := decide_eq_false (by omega); clear c19; replace H := Option.bind_eq_some_iff.mp H; obtain ⟨t502, A210, H⟩ := H; (try dsimp only at H); have A21 := aM A210; clear A210
            by_cases c22 : t502 = true
            ·subst c22; have H1 : (mapmakerlaw19_Few.l1 k3 (wrap64 (x4_3 + 1)) l0_0 l0_1 l0_2) = some r := by rw [if_pos rfl] at H; exact H
             clear H; have H := H1; clear H1; have H' := aM H; clear H; have hz23 := bc3 BK497; have p500 : 0 ≤ (x4_3 : Int) := oT; have q500 : x4_3 < (l0_1.length : Int) := oT; obtain ⟨ad500, A500_1, c500_1, A500_2, c500_2, e500, hx500_0, hx500_1, hx500_2, hl500_1, hi500_1, hl500_2, hi500_2⟩ := at_T56 HR0_1.out x4_3 p500 q500; cases e500
             replace hx500_0 := hs HB.out hx500_0; replace hx500_1 := hs HB.out hx500_1; replace hx500_2 := hs HB.out hx500_2; have HR500_1 := aM hi500_1; have HC500_1 := aM hl500_1; clear hi500_1 hl500_1; have HR500_2 := aM hi500_2; have HC500_2 := aM hl500_2; clear hi500_2 hl500_2; replace p500 := eq_true p500; replace q500 := eq_true q500; have p501 : 0 ≤ (x4_3 : Int) := oT; have q501 : x4_3 < (l0_1.length : Int) := oT; obtain ⟨ad501, A501_1, c501_1, A501_2, c501_2, e501, hx501_0, hx501_1, hx501_2, hl501_1, hi501_1, hl501_2, hi501_2⟩ := at_T56 HR0_1.out x4_3 p501 q501; obtain rfl : ad500 = ad501 := (by injection e501); replace hx501_0 := hs HB.out hx501_0; replace hx501_1 := hs HB.out hx501_1; replace hx501_2 := hs HB.out hx501_2; have HR501_1 := aM hi501_1; have HC501_1 := aM hl501_1; clear hi501_1 hl501_1; have HR501_2 := aM hi501_2; have HC501_2 := aM hl501_2; clear hi501_2 hl501_2; replace p501 := eq_true p501; replace q501 := eq_true q501; have ea_ := Option.some.inj (hx500_1.symm.trans hx501_1); injection ea_ with ea_ en_ ec_
             subst ea_; subst ec_; clear en_; have ea_ := Option.some.inj (hx500_2.symm.trans hx501_2); injection ea_ with ea_ en_ ec_
             subst ea_; subst ec_; clear en_
             go_wp2_with (first | (go_at_call 26; (with_reducible refine (mapmakerlaw19_tags.calls k3 _ _ ((rd_T56 l0_1 x4_3).f2) true _ ?side1 ?side2 A21.out).mono ?_); (case side1 => exact cl HR501_2); (case side2 => exact HC501_2.out); rintro e w' ⟨rfl, ⟨nd, rfl⟩⟩))
             go_roundg k3
             case measure => have := HJ1.out; have := HK2.out; have := HK3.out; omega
             case rel => exact ⟨(wrap64 (x4_3 + 1)), (by first | rfl | (simp; done) | (simp [*]; done)), H', ⟨by have := HJ1.out; have := HK2.out; have := HK3.out; omega⟩, ⟨kl BK497⟩, ⟨bl⟩⟩
            ·replace c22 := Bool.eq_false_iff.mpr c22; subst c22; have H1 : (some false) = some r := by rw [if_neg (show ¬ (false = true) by decide)] at H; exact H
             clear H; have H := H1; clear H1; obtain rfl := Option.some.inj H; have hz24 := bc3 BK497; have p500 : 0 ≤ (x4_3 : Int) := oT; have q500 : x4_3 < (l0_1.length : Int) := oT; obtain ⟨ad500, A500_1, c500_1, A500_2, c500_2, e500, hx500_0, hx500_1, hx500_2, hl500_1, hi500_1, hl500_2, hi500_2⟩ := at_T56 HR0_1.out x4_3 p500 q500; cases e500
             replace hx500_0 := hs HB.out hx500_0; replace hx500_1 := hs HB.out hx500_1; replace hx500_2 := hs HB.out hx500_2; have HR500_1 := aM hi500_1; have HC500_1 := aM hl500_1; clear hi500_1 hl500_1; have HR500_2 := aM hi500_2; have HC500_2 := aM hl500_2; clear hi500_2 hl500_2; replace p500 := eq_true p500; replace q500 := eq_true q500; have p501 : 0 ≤ (x4_3 : Int) := oT; have q501 : x4_3 < (l0_1.length : Int) := oT; obtain ⟨ad501, A501_1, c501_1, A501_2, c501_2, e501, hx501_0, hx501_1, hx501_2, hl501_1, hi501_1, hl501_2, hi501_2⟩ := at_T56 HR0_1.out x4_3 p501 q501; obtain rfl : ad500 = ad501 := (by injection e501); replace hx501_0 := hs HB.out hx501_0; replace hx501_1 := hs HB.out hx501_1; replace hx501_2 := hs HB.out hx501_2; have HR501_1 := aM hi501_1; have HC501_1 := aM hl501_1; clear hi501_1 hl501_1; have HR501_2 := aM hi501_2; have HC501_2 := aM hl501_2; clear hi501_2 hl501_2; replace p501 := eq_true p501; replace q501 := eq_true q501; have ea_ := Option.some.inj (hx500_1.symm.trans hx501_1); injection ea_ with ea_ en_ ec_
             subst ea_; subst ec_; clear en_; have ea_ := Option.some.inj (hx500_2.symm.trans hx501_2); injection ea_ with ea_ en_ ec_
             subst ea_; subst ec_; clear en_
             go_wp2_with (first | (go_at_call 26; (with_reducible refine (mapmakerlaw19_tags.calls k3 _ _ ((rd_T56 l0_1 x4_3).f2) false _ ?side1 ?side2 A21.out).mono ?_); (case side1 => exact cl HR501_2); (case side2 => exact HC501_2.out); rintro e w' ⟨rfl, ⟨nd, rfl⟩⟩))
             go_ret; exact ⟨by first | rfl | (simp [errW_none, errW_some] <;> rfl) | (simp [*, errW_none, errW_some] <;> rfl), bl⟩
          ·rw [if_neg c18] at H; exact absurd H (by simp)
         ·rw [if_neg c17] at H; have c17b0 : decide (x4_3 < (l0_1.length : Int)) = false := decide_eq_false c17; clear c17; have H' := aM H; clear H; have hz25 := bc3 BK497
          go_wp2
          go_loopg [5] k3 (fun kq v5 w' => ∃ (x5_4 : Int), v5 = .int .i64 x5_4 ∧ Aside0 (mapmakerlaw19_Few.l2 kq x5_4 l0_0 l0_1 l0_2 = some r) ∧ Aside0 (kq ≤ k3) ∧ Aside0 (w'.heap[gb497]? = some (.cells #[(.slice A0_0 l0_0.length c0_0), (.slice A0_1 l0_1.length c0_1), (.slice A0_2 l0_2.length c0_2)] 26 (0, 0))) ∧ Aside0 (Below w.heap.size w w'))
          case atStart => exact ⟨(0), (by first | rfl | (simp; done) | (simp [*]; done)), H', ⟨Nat.le_refl _⟩, ⟨kl BK497⟩, ⟨bl⟩⟩
          case round =>
           clear H'; (try clear c4); (try clear c4b0); (try clear c4b1); (try clear c6); (try clear c6b0); (try clear c6b1); (try clear c9); (try clear c10); (try clear c10b0); (try clear c11); (try clear c11b0); (try clear c13); (try clear c17); (try clear c17b0); (try clear c18); (try clear c18b0); (try clear c19); (try clear c19b0); (try clear c19b1); (try clear c22); (try clear hz14); (try clear hz15); (try clear hz16); (try clear hz20); (try clear hz23); (try clear hz24); (try clear hz25); (try clear hz5); (try clear hz7); (try clear hz8); (try clear hx498_0); (try clear hx498_1); (try clear hx498_2); (try clear hx498_3); (try clear hx500_0); (try clear hx500_1); (try clear hx500_2); (try clear hx501_0); (try clear hx501_1); (try clear hx501_2); (try clear p498); (try clear p500); (try clear p501); (try clear q498); (try clear q500); (try clear q501); obtain ⟨x5_4, rfl, HA, HK4, BK497, HB⟩ := hrel
           cases gk with
           | zero => exact absurd HA.out (by simp [mapmakerlaw19_Few.l2])
           | succ k4 =>
            have H := HA.out; clear HA; simp only [mapmakerlaw19_Few.l2] at H
            by_cases c26 : x5_4 < (l0_2.length : Int)
            ·rw [if_pos c26] at H; have c26b0 : decide (x5_4 < (l0_2.length : Int)) = true := decide_eq_true c26; clear c26; have HC27 := aM H; clear H; have hz28 := bc3 BK497
             go_upto_region 16 with (fail)
             go_cut [87] (fun v87 wc => ∃ (kq : Nat) (x87_26 : Bool), v87 = .bool x87_26 ∧ Aside0 (mapmakerlaw19_Few.j4 kq x5_4 x87_26 l0_0 l0_1 l0_2 = some r) ∧ Aside0 (kq ≤ k4) ∧ Aside0 (wc.heap[gb497]? = some (.cells #[(.slice A0_0 l0_0.length c0_0), (.slice A0_1 l0_1.length c0_1), (.slice A0_2 l0_2.length c0_2)] 26 (0, 0))) ∧ Aside0 (Below w.heap.size w wc))
             case first =>
              have H := HC27.out; clear HC27
              by_cases c29 : 0 ≤ x5_4
              ·rw [if_pos c29] at H; have c29b0 : decide (0 ≤ x5_4) = true := decide_eq_true c29; clear c29
               (first | rw [c29b0] | (simp only [i64_w, i32_w]; rw [c29b0]) | skip)
               by_cases c30 : (((rd_T59 l0_2 x5_4).f1).length : Int) > 8
               ·rw [if_pos c30] at H; have c30b0 : decide (8 < (((rd_T59 l0_2 x5_4).f1).length : Int)) = true := decide_eq_true c30; have c30b1 : decide (8 < ((rd_T59 l0_2 x5_4).f1).length) = true := decide_eq_true (by omega); clear c30; have H' := aM H; clear H; have hz31 := bc3 BK497; have p503 : 0 ≤ (x5_4 : Int) := oT; have q503 : x5_4 < (l0_2.length : Int) := oT; obtain ⟨ad503, A503_1, c503_1, A503_2, c503_2, e503, hx503_0, hx503_1, hx503_2, hl503_1, hi503_1, hl503_2, hi503_2⟩ := at_T59 HR0_2.out x5_4 p503 q503; cases e503
                replace hx503_0 := hs HB.out hx503_0; replace hx503_1 := hs HB.out hx503_1; replace hx503_2 := hs HB.out hx503_2; have HR503_1 := aM hi503_1; have HC503_1 := aM hl503_1; clear hi503_1 hl503_1; have HR503_2 := aM hi503_2; have HC503_2 := aM hl503_2; clear hi503_2 hl503_2; replace p503 := eq_true p503; replace q503 := eq_true q503
                go_wp2
                go_meet
                case rel => exact ⟨_, (true), (by first | rfl | (simp; done) | (simp [*]; done)), H', ⟨by have := HJ1.out; have := HK2.out; have := HK3.out; have := HK4.out; first | omega | exact Nat.le_refl _⟩, ⟨kl BK497⟩, ⟨bl⟩⟩
               ·rw [if_neg c30] at H; have c30b0 : decide (8 < (((rd_T59 l0_2 x5_4).f1).length : Int)) = false := decide_eq_false c30; have c30b1 : decide (8 < ((rd_T59 l0_2 x5_4).f1).length) = false := decide_eq_false (by omega); clear c30; replace H := Option.bind_eq_some_iff.mp H; obtain ⟨t505, A320, H⟩ := H; (try dsimp only at H); have A32 := aM A320; clear A320; have H' := aM H; clear H; have hz33 := bc3 BK497; have p503 : 0 ≤ (x5_4 : Int) := oT; have q503 : x5_4 < (l0_2.length : Int) := oT; obtain ⟨ad503, A503_1, c503_1, A503_2, c503_2, e503, hx503_0, hx503_1, hx503_2, hl503_1, hi503_1, hl503_2, hi503_2⟩ := at_T59 HR0_2.out x5_4 p503 q503; cases e503
                replace hx503_0 := hs HB.out hx503_0; replace hx503_1 := hs HB.out hx503_1; replace hx503_2 := hs HB.out hx503_2; have HR503_1 := aM hi503_1; have HC503_1 := aM hl503_1; clear hi503_1 hl503_1; have HR503_2 := aM hi503_2; have HC503_2 := aM hl503_2; clear hi503_2 hl503_2; replace p503 := eq_true p503; replace q503 := eq_true q503; have p504 : 0 ≤ (x5_4 : Int) := oT; have q504 : x5_4 < (l0_2.length : Int) := oT; obtain ⟨ad504, A504_1, c504_1, A504_2, c504_2, e504, hx504_0, hx504_1, hx504_2, hl504_1, hi504_1, hl504_2, hi504_2⟩ := at_T59 HR0_2.out x5_4 p504 q504; obtain rfl : ad503 = ad504 := (by injection e504); replace hx504_0 := hs HB.out hx504_0; replace hx504_1 := hs HB.out hx504_1; replace hx504_2 := hs HB.out hx504_2; have HR504_1 := aM hi504_1; have HC504_1 := aM hl504_1; clear hi504_1 hl504_1; have HR504_2 := aM hi504_2; have HC504_2 := aM hl504_2; clear hi504_2 hl504_2; replace p504 := eq_true p504; replace q504 := eq_true q504; have ea_ := Option.some.inj (hx503_1.symm.trans hx504_1); injection ea_ with ea_ en_ ec_
                subst ea_; subst ec_; clear en_; have ea_ := Option.some.inj (hx503_2.symm.trans hx504_2); injection ea_ with ea_ en_ ec_
                subst ea_; subst ec_; clear en_
                go_wp2_with (first | (go_at_call 26; (with_reducible refine (mapmakerlaw19_tags.calls k4 _ _ ((rd_T59 l0_2 x5_4).f2) t505 _ ?side1 ?side2 A32.out).mono ?_); (case side1 => exact cl HR504_2); (case side2 => exact HC504_2.out); rintro e w' ⟨rfl, ⟨nd, rfl⟩⟩))
                go_meet
                case rel => exact ⟨_, (!t505), (by first | rfl | (simp; done) | (simp [*]; done)), H', ⟨by have := HJ1.out; have := HK2.out; have := HK3.out; have := HK4.out; first | omega | exact Nat.le_refl _⟩, ⟨kl BK497⟩, ⟨bl⟩⟩
              ·rw [if_neg c29] at H; exact absurd H (by simp)
             case rest =>
              clear HC27; (try clear c4); (try clear c4b0); (try clear c4b1); (try clear c6); (try clear c6b0); (try clear c6b1); (try clear c9); (try clear c10); (try clear c10b0); (try clear c11); (try clear c11b0); (try clear c13); (try clear c17); (try clear c17b0); (try clear c18); (try clear c18b0); (try clear c19); (try clear c19b0); (try clear c19b1); (try clear c22); (try clear c26); (try clear c26b0); (try clear c29); (try clear c29b0); (try clear c30); (try clear c30b0); (try clear c30b1); (try clear hz14); (try clear hz15); (try clear hz16); (try clear hz20); (try clear hz23); (try clear hz24); (try clear hz25); (try clear hz28); (try clear hz31); (try clear hz33); (try clear hz5); (try clear hz7); (try clear hz8); (try clear hx498_0); (try clear hx498_1); (try clear hx498_2); (try clear hx498_3); (try clear hx500_0); (try clear hx500_1); (try clear hx500_2); (try clear hx501_0); (try clear hx501_1); (try clear hx501_2); (try clear hx503_0); (try clear hx503_1); (try clear hx503_2); (try clear hx504_0); (try clear hx504_1); (try clear hx504_2); (try clear p498); (try clear p500); (try clear p501); (try clear p503); (try clear p504); (try clear q498); (try clear q500); (try clear q501); (try clear q503); (try clear q504); obtain ⟨kq, x87_26, rfl, HA, HJ26, BK497, HB⟩ := hcut
              cases kq with
              | zero => exact absurd HA.out (by simp [mapmakerlaw19_Few.j4])
              | succ kj26 =>
               have H := HA.out; clear HA; simp only [mapmakerlaw19_Few.j4] at H
               by_cases c34 : x87_26 = true
               ·subst c34; have H1 : (some false) = some r := by rw [if_pos rfl] at H; exact H
                clear H; have H := H1; clear H1; obtain rfl := Option.some.inj H
                go_wp2
                go_ret; exact ⟨by first | rfl | (simp [errW_none, errW_some] <;> rfl) | (simp [*, errW_none, errW_some] <;> rfl), bl⟩
               ·replace c34 := Bool.eq_false_iff.mpr c34; subst c34; have H1 : (mapmakerlaw19_Few.l3 kj26 x5_4 0 l0_0 l0_1 l0_2) = some r := by rw [if_neg (show ¬ (false = true) by decide)] at H; exact H
                clear H; have H := H1; clear H1; have H' := aM H; clear H
                go_wp2
                go_loopg [6] kj26 (fun kq v6 w' => ∃ (x6_6 : Int), v6 = .int .i64 x6_6 ∧ Aside0 (mapmakerlaw19_Few.l3 kq x5_4 x6_6 l0_0 l0_1 l0_2 = some r) ∧ Aside0 (kq ≤ kj26) ∧ Aside0 (w'.heap[gb497]? = some (.cells #[(.slice A0_0 l0_0.length c0_0), (.slice A0_1 l0_1.length c0_1), (.slice A0_2 l0_2.length c0_2)] 26 (0, 0))) ∧ Aside0 (Below w.heap.size w w'))
                case atStart => exact ⟨(0), (by first | rfl | (simp; done) | (simp [*]; done)), H', ⟨Nat.le_refl _⟩, ⟨kl BK497⟩, ⟨bl⟩⟩
                case round =>
                 clear H'; (try clear c4); (try clear c4b0); (try clear c4b1); (try clear c6); (try clear c6b0); (try clear c6b1); (try clear c9); (try clear c10); (try clear c10b0); (try clear c11); (try clear c11b0); (try clear c13); (try clear c17); (try clear c17b0); (try clear c18); (try clear c18b0); (try clear c19); (try clear c19b0); (try clear c19b1); (try clear c22); (try clear c26); (try clear c26b0); (try clear c29); (try clear c29b0); (try clear c30); (try clear c30b0); (try clear c30b1); (try clear c34); (try clear hz14); (try clear hz15); (try clear hz16); (try clear hz20); (try clear hz23); (try clear hz24); (try clear hz25); (try clear hz28); (try clear hz31); (try clear hz33); (try clear hz5); (try clear hz7); (try clear hz8); (try clear hx498_0); (try clear hx498_1); (try clear hx498_2); (try clear hx498_3); (try clear hx500_0); (try clear hx500_1); (try clear hx500_2); (try clear hx501_0); (try clear hx501_1); (try clear hx501_2); (try clear hx503_0); (try clear hx503_1); (try clear hx503_2); (try clear hx504_0); (try clear hx504_1); (try clear hx504_2); (try clear p498); (try clear p500); (try clear p501); (try clear p503); (try clear p504); (try clear q498); (try clear q500); (try clear q501); (try clear q503); (try clear q504); obtain ⟨x6_6, rfl, HA, HK6, BK497, HB⟩ := hrel
                 cases gk with
                 | zero => exact absurd HA.out (by simp [mapmakerlaw19_Few.l3])
                 | succ k6 =>
                  have H := HA.out; clear HA; simp only [mapmakerlaw19_Few.l3] at H
                  by_cases c35 : 0 ≤ x5_4
                  ·rw [if_pos c35] at H; have c35b0 : decide (0 ≤ x5_4) = true := decide_eq_true c35; clear c35
                   by_cases c36 : x5_4 < (l0_2.length : Int)
                   ·rw [if_pos c36] at H; have c36b0 : decide (x5_4 < (l0_2.length : Int)) = true := decide_eq_true c36; clear c36
                    by_cases c37 : x6_6 < (((rd_T59 l0_2 x5_4).f1).length : Int)
                    ·rw [if_pos c37] at H; have c37b0 : decide (x6_6 < (((rd_T59 l0_2 x5_4).f1).length : Int)) = true := decide_eq_true c37; clear c37
                     by_cases c38 : 0 ≤ x6_6
                     ·rw [if_pos c38] at H; have c38b0 : decide (0 ≤ x6_6) = true := decide_eq_true c38; clear c38
                      by_cases c39 : (((rd_T63 ((rd_T59 l0_2 x5_4).f1) x6_6).f1).size : Int) > 200
                      ·rw [if_pos c39] at H; have c39b0 : decide (200 < (((rd_T63 ((rd_T59 l0_2 x5_4).f1) x6_6).f1).size : Int)) = true := decide_eq_true c39; have c39b1 : decide (200 < ((rd_T63 ((rd_T59 l0_2 x5_4).f1) x6_6).f1).size) = true := decide_eq_true (by omega); clear c39; obtain rfl := Option.some.inj H; have hz40 := bc3 BK497; have p506 : 0 ≤ (x5_4 : Int) := oT; have q506 : x5_4 < (l0_2.length : Int) := oT; obtain ⟨ad506, A506_1, c506_1, A506_2, c506_2, e506, hx506_0, hx506_1, hx506_2, hl506_1, hi506_1, hl506_2, hi506_2⟩ := at_T59 HR0_2.out x5_4 p506 q506; cases e506
                       replace hx506_0 := hs HB.out hx506_0; replace hx506_1 := hs HB.out hx506_1; replace hx506_2 := hs HB.out hx506_2; have HR506_1 := aM hi506_1; have HC506_1 := aM hl506_1; clear hi506_1 hl506_1; have HR506_2 := aM hi506_2; have HC506_2 := aM hl506_2; clear hi506_2 hl506_2; replace p506 := eq_true p506; replace q506 := eq_true q506; have p507 : 0 ≤ (x5_4 : Int) := oT; have q507 : x5_4 < (l0_2.length : Int) := oT; obtain ⟨ad507, A507_1, c507_1, A507_2, c507_2, e507, hx507_0, hx507_1, hx507_2, hl507_1, hi507_1, hl507_2, hi507_2⟩ := at_T59 HR0_2.out x5_4 p507 q507; obtain rfl : ad506 = ad507 := (by injection e507); replace hx507_0 := hs HB.out hx507_0; replace hx507_1 := hs HB.out hx507_1; replace hx507_2 := hs HB.out hx507_2; have HR507_1 := aM hi507_1; have HC507_1 := aM hl507_1; clear hi507_1 hl507_1; have HR507_2 := aM hi507_2; have HC507_2 := aM hl507_2; clear hi507_2 hl507_2; replace p507 := eq_true p507; replace q507 := eq_true q507; have ea_ := Option.some.inj (hx506_1.symm.trans hx507_1); injection ea_ with ea_ en_ ec_
                       subst ea_; subst ec_; clear en_; have ea_ := Option.some.inj (hx506_2.symm.trans hx507_2); injection ea_ with ea_ en_ ec_
                       subst ea_; subst ec_; clear en_; have p508 : 0 ≤ (x6_6 : Int) := oT; have q508 : x6_6 < (((rd_T59 l0_2 x5_4).f1).length : Int) := oT; obtain ⟨ad508, e508, hx508_0, hx508_1, hx508_2⟩ := at_T63 HR507_1.out x6_6 p508 q508; cases e508
                       replace hx508_0 := hs HB.out hx508_0; replace hx508_1 := hs HB.out hx508_1; replace hx508_2 := hs HB.out hx508_2; replace p508 := eq_true p508; replace q508 := eq_true q508
                       go_wp2
                       go_ret; exact ⟨by first | rfl | (simp [errW_none, errW_some] <;> rfl) | (simp [*, errW_none, errW_some] <;> rfl), bl⟩
                      ·rw [if_neg c39] at H; have c39b0 : decide (200 < (((rd_T63 ((rd_T59 l0_2 x5_4).f1) x6_6).f1).size : Int)) = false := decide_eq_false c39; have c39b1 : decide (200 < ((rd_T63 ((rd_T59 l0_2 x5_4).f1) x6_6).f1).size) = false := decide_eq_false (by omega); clear c39; have H' := aM H; clear H; have hz41 := bc3 BK497; have p506 : 0 ≤ (x5_4 : Int) := oT; have q506 : x5_4 < (l0_2.length : Int) := oT; obtain ⟨ad506, A506_1, c506_1, A506_2, c506_2, e506, hx506_0, hx506_1, hx506_2, hl506_1, hi506_1, hl506_2, hi506_2⟩ := at_T59 HR0_2.out x5_4 p506 q506; cases e506
                       replace hx506_0 := hs HB.out hx506_0; replace hx506_1 := hs HB.out hx506_1; replace hx506_2 := hs HB.out hx506_2; have HR506_1 := aM hi506_1; have HC506_1 := aM hl506_1; clear hi506_1 hl506_1; have HR506_2 := aM hi506_2; have HC506_2 := aM hl506_2; clear hi506_2 hl506_2; replace p506 := eq_true p506; replace q506 := eq_true q506; have p507 : 0 ≤ (x5_4 : Int) := oT; have q507 : x5_4 < (l0_2.length : Int) := oT; obtain ⟨ad507, A507_1, c507_1, A507_2, c507_2, e507, hx507_0, hx507_1, hx507_2, hl507_1, hi507_1, hl507_2, hi507_2⟩ := at_T59 HR0_2.out x5_4 p507 q507; obtain rfl : ad506 = ad507 := (by injection e507); replace hx507_0 := hs HB.out hx507_0; replace hx507_1 := hs HB.out hx507_1; replace hx507_2 := hs HB.out hx507_2; have HR507_1 := aM hi507_1; have HC507_1 := aM hl507_1; clear hi507_1 hl507_1; have HR507_2 := aM hi507_2; have HC507_2 := aM hl507_2; clear hi507_2 hl507_2; replace p507 := eq_true p507; replace q507 := eq_true q507; have ea_ := Option.some.inj (hx506_1.symm.trans hx507_1); injection ea_ with ea_ en_ ec_
                       subst ea_; subst ec_; clear en_; have ea_ := Option.some.inj (hx506_2.symm.trans hx507_2); injection ea_ with ea_ en_ ec_
                       subst ea_; subst ec_; clear en_; have p508 : 0 ≤ (x6_6 : Int) := oT; have q508 : x6_6 < (((rd_T59 l0_2 x5_4).f1).length : Int) := oT; obtain ⟨ad508, e508, hx508_0, hx508_1, hx508_2⟩ := at_T63 HR507_1.out x6_6 p508 q508; cases e508
                       replace hx508_0 := hs HB.out hx508_0; replace hx508_1 := hs HB.out hx508_1; replace hx508_2 := hs HB.out hx508_2; replace p508 := eq_true p508; replace q508 := eq_true q508
                       go_wp2
                       go_roundg k6
                       case measure => have := HJ1.out; have := HK2.out; have := HK3.out; have := HK4.out; have := HJ26.out; have := HK6.out; omega
                       case rel => exact ⟨(wrap64 (x6_6 + 1)), (by first | rfl | (simp; done) | (simp [*]; done)), H', ⟨by have := HJ1.out; have := HK2.out; have := HK3.out; have := HK4.out; have := HJ26.out; have := HK6.out; omega⟩, ⟨kl BK497⟩, ⟨bl⟩⟩
                     ·rw [if_neg c38] at H; exact absurd H (by simp)
                    ·rw [if_neg c37] at H; have c37b0 : decide (x6_6 < (((rd_T59 l0_2 x5_4).f1).length : Int)) = false := decide_eq_false c37; clear c37; have H' := aM H; clear H; have hz42 := bc3 BK497; have p506 : 0 ≤ (x5_4 : Int) := oT; have q506 : x5_4 < (l0_2.length : Int) := oT; obtain ⟨ad506, A506_1, c506_1, A506_2, c506_2, e506, hx506_0, hx506_1, hx506_2, hl506_1, hi506_1, hl506_2, hi506_2⟩ := at_T59 HR0_2.out x5_4 p506 q506; cases e506
                     replace hx506_0 := hs HB.out hx506_0; replace hx506_1 := hs HB.out hx506_1; replace hx506_2 := hs HB.out hx506_2; have HR506_1 := aM hi506_1; have HC506_1 := aM hl506_1; clear hi506_1 hl506_1; have HR506_2 := aM hi506_2; have HC506_2 := aM hl506_2; clear hi506_2 hl506_2; replace p506 := eq_true p506; replace q506 := eq_true q506
                     go_wp2
                     go_roundg k6
                     case measure => have := HJ1.out; have := HK2.out; have := HK3.out; have := HK4.out; have := HJ26.out; have := HK6.out; omega
                     case rel => exact ⟨(wrap64 (x5_4 + 1)), (by first | rfl | (simp; done) | (simp [*]; done)), H', ⟨by have := HJ1.out; have := HK2.out; have := HK3.out; have := HK4.out; have := HJ26.out; have := HK6.out; omega⟩, ⟨kl BK497⟩, ⟨bl⟩⟩
                   ·rw [if_neg c36] at H; exact absurd H (by simp)
                  ·rw [if_neg c35] at H; exact absurd H (by simp)
            ·rw [if_neg c26] at H; have c26b0 : decide (x5_4 < (l0_2.length : Int)) = false := decide_eq_false c26; clear c26; obtain rfl := Option.some.inj H; have hz43 := bc3 BK497
             go_wp2
             go_ret; exact ⟨by first | rfl | (simp [errW_none, errW_some] <;> rfl) | (simp [*, errW_none, errW_some] <;> rfl), bl⟩
end Go.Proofs.Ytefambkodalomaa.PAll
