-- out of a driver of this session's prover over the kit's print: Lean checks it
import Derived.Test.YtefambkodalomaaPAllx0
import Derived.Test.YtefambkodalomaaPAllx1
import Derived.Test.YtefambkodalomaaPAllx3
namespace Go.Proofs.Ytefambkodalomaa.PAll
open Go.Proofs.YtefambkodalomaaG Go.Shelf Go.Lib
open Go.RowKit Go.Proofs.YtefambkodalomaaW.PrintWords Go.Proofs.YtefambkodalomaaW.PrintLast Go.Proofs.YtefambkodalomaaW.PrintMore
attribute [local go_sem] max2_int min2_int max_two min_two max_three min_three max_four min_four   -- for this text's walks alone
set_option linter.unusedVariables false
set_option linter.unusedSimpArgs false
attribute [local go_sem high] eqA50 eqA130
def mapmakerref14_SameTags.l0 : Nat → List (S130) → List (S130) → Int → Option (Bool)
 | 0, _, _, _ => none
 | k + 1, x0, x1, x5 => if x5 < (x0.length : Int) then (if 0 ≤ x5 then (if x5 < (x1.length : Int) then (if (!((((rd_T130 x0 x5).f0).toList) == (((rd_T130 x1 x5).f0).toList)) || (!((((rd_T130 x0 x5).f1).toList) == (((rd_T130 x1 x5).f1).toList)))) = true then (some false) else (mapmakerref14_SameTags.l0 k x0 x1 (wrap64 (x5 + 1)))) else (none)) else (none)) else (some true)
def mapmakerref14_SameTags.f (k : Nat) (l0 : List (S130)) (l1 : List (S130)) : Option (Bool) := if (l0.length : Int) = (l1.length : Int) then (mapmakerref14_SameTags.l0 k l0 l1 0) else (some false)
theorem mapmakerref14_SameTags.mono_l : ∀ k, (∀ y0 y1 y2, LeO (mapmakerref14_SameTags.l0 k y0 y1 y2) (mapmakerref14_SameTags.l0 (k + 1) y0 y1 y2))
 | 0 => fun _ _ _ r h => by simp [mapmakerref14_SameTags.l0] at h
 | k + 1 => by
  have ih0 := mapmakerref14_SameTags.mono_l k
  ·intro y0 y1 y2
   unfold mapmakerref14_SameTags.l0
   repeat' first
   | (with_reducible exact ih0 _ _ _)
   | (with_reducible exact LeO.refl _)
   | (with_reducible exact LeO.none _)
   | (with_reducible refine LeO.ite ?_ ?_)
   | (with_reducible refine LeO.eB ?_ (fun _ => ?_))
   | (with_reducible refine LeO.bind ?_ (fun _ => ?_))
   | exact ih0 _ _ _
   | exact LeO.none _
   | refine LeO.ite ?_ ?_
   | refine LeO.bind ?_ (fun _ => ?_)
theorem mapmakerref14_SameTags.mono : ∀ a0 a1 k, LeO (mapmakerref14_SameTags.f k a0 a1) (mapmakerref14_SameTags.f (k + 1) a0 a1) := by
 intro a0 a1 k; have ih0 := mapmakerref14_SameTags.mono_l k; unfold mapmakerref14_SameTags.f
 repeat' first
   | (with_reducible exact ih0 _ _ _)
   | (with_reducible exact LeO.refl _)
   | (with_reducible exact LeO.none _)
   | (with_reducible refine LeO.ite ?_ ?_)
   | (with_reducible refine LeO.eB ?_ (fun _ => ?_))
   | (with_reducible refine LeO.bind ?_ (fun _ => ?_))
   | exact ih0 _ _ _
   | exact LeO.none _
   | refine LeO.ite ?_ ?_
   | refine LeO.bind ?_ (fun _ => ?_)
set_option maxHeartbeats 8000000 in
set_option maxRecDepth 100000 in
theorem mapmakerref14_SameTags.calls (k : Nat) (A0 : Option Addr) (c0 : Nat) (l0 : List (S130)) (A1 : Option Addr) (c1 : Nat) (l1 : List (S130)) (r : Bool) (w : World) (hr0 : Kd.C k130 w A0 l0.length l0) (hc0 : l0.length ≤ c0) (hr1 : Kd.C k130 w A1 l1.length l1) (hc1 : l1.length ≤ c1) (h : mapmakerref14_SameTags.f k l0 l1 = some r) :
  Calls Try.prog 94 #[.slice A0 l0.length c0, .slice A1 l1.length c1] w fun e w' => e = .returned (.bool r) ∧ Drawn0 w w' := by
 have hu130 := Try.underlying130; have HR0 := aM hr0; have HC0 := aM hc0; clear hr0 hc0; have HR1 := aM hr1; have HC1 := aM hc1; clear hr1 hc1; have H : (if (l0.length : Int) = (l1.length : Int) then (mapmakerref14_SameTags.l0 k l0 l1 0) else (some false)) = some r := h; clear h
 by_cases c3 : (l0.length : Int) = (l1.length : Int)
 ·rw [if_pos c3] at H; have c3b0 : ((l0.length : Int) == (l1.length : Int)) = true := beq_iff_eq.mpr c3; have c3b1 : ((l0.length : Int) != (l1.length : Int)) = false := bne_eq_false_iff_eq.mpr c3; have c3b2 : (l0.length == l1.length) = true := by first | simpa using c3 | (simp at c3 ⊢; omega)
  clear c3; have H' := aM H; clear H; go_enter Try.func94, Try.ntmps94
  go_wp2
  repeat (go_quiet (fail); try go_wp2)
  go_loopg [5] k (fun kq v5 w' => ∃ (x5_1 : Int), v5 = .int .i64 x5_1 ∧ Aside0 (mapmakerref14_SameTags.l0 kq l0 l1 x5_1 = some r) ∧ Aside0 (kq ≤ k) ∧ Drawn0 w w')
  case atStart => exact ⟨(0), (by first | rfl | (simp; done) | (simp [*]; done)), H', ⟨Nat.le_refl _⟩, by repeat (first | exact Drawn0.refl _ | apply Drawn0.step)⟩
  case round =>
   clear H'; (try clear c1); (try clear c3); (try clear c3b0); (try clear c3b1); (try clear c3b2); obtain ⟨x5_1, rfl, HA, HK1, ⟨m1, rfl⟩⟩ := hrel
   cases gk with
   | zero => exact absurd HA.out (by simp [mapmakerref14_SameTags.l0])
   | succ k1 =>
    have H := HA.out; clear HA; simp only [mapmakerref14_SameTags.l0] at H
    by_cases c4 : x5_1 < (l0.length : Int)
    ·rw [if_pos c4] at H; have c4b0 : decide (x5_1 < (l0.length : Int)) = true := decide_eq_true c4; clear c4
     by_cases c5 : 0 ≤ x5_1
     ·rw [if_pos c5] at H; have c5b0 : decide (0 ≤ x5_1) = true := decide_eq_true c5; clear c5
      by_cases c6 : x5_1 < (l1.length : Int)
      ·rw [if_pos c6] at H; have c6b0 : decide (x5_1 < (l1.length : Int)) = true := decide_eq_true c6; clear c6
       by_cases c7 : (!((((rd_T130 l0 x5_1).f0).toList) == (((rd_T130 l1 x5_1).f0).toList)) || (!((((rd_T130 l0 x5_1).f1).toList) == (((rd_T130 l1 x5_1).f1).toList)))) = true
       ·rw [if_pos c7] at H; have c7b0 : (!((((rd_T130 l0 x5_1).f0).toList) == (((rd_T130 l1 x5_1).f0).toList)) || (!((((rd_T130 l0 x5_1).f1).toList) == (((rd_T130 l1 x5_1).f1).toList)))) = true := c7; clear c7; obtain rfl := Option.some.inj H; have p771 : 0 ≤ (x5_1 : Int) := oT; have q771 : x5_1 < (l0.length : Int) := oT; obtain ⟨ad771, e771, hx771_0, hx771_1⟩ := at_T130 HR0.out x5_1 p771 q771; cases e771
        replace p771 := eq_true p771; replace q771 := eq_true q771; have p772 : 0 ≤ (x5_1 : Int) := oT; have q772 : x5_1 < (l1.length : Int) := oT; obtain ⟨ad772, e772, hx772_0, hx772_1⟩ := at_T130 HR1.out x5_1 p772 q772; cases e772
        replace p772 := eq_true p772; replace q772 := eq_true q772
        go_wp2
        repeat (go_quiet (fail); try go_wp2)
        go_ret; exact ⟨by first | rfl | (simp; done) | (simp [*]; done), by repeat (first | exact Drawn0.refl _ | apply Drawn0.step)⟩
       ·rw [if_neg c7] at H; have c7b0 : (!((((rd_T130 l0 x5_1).f0).toList) == (((rd_T130 l1 x5_1).f0).toList)) || (!((((rd_T130 l0 x5_1).f1).toList) == (((rd_T130 l1 x5_1).f1).toList)))) = false := by simpa using c7
        clear c7; have H' := aM H; clear H; have p771 : 0 ≤ (x5_1 : Int) := oT; have q771 : x5_1 < (l0.length : Int) := oT; obtain ⟨ad771, e771, hx771_0, hx771_1⟩ := at_T130 HR0.out x5_1 p771 q771; cases e771
        replace p771 := eq_true p771; replace q771 := eq_true q771; have p772 : 0 ≤ (x5_1 : Int) := oT; have q772 : x5_1 < (l1.length : Int) := oT; obtain ⟨ad772, e772, hx772_0, hx772_1⟩ := at_T130 HR1.out x5_1 p772 q772; cases e772
        replace p772 := eq_true p772; replace q772 := eq_true q772
        go_wp2
        repeat (go_quiet (fail); try go_wp2)
        go_roundg k1
        case measure => have := HK1.out; omega
        case rel => exact ⟨(wrap64 (x5_1 + 1)), (by first | rfl | (simp; done) | (simp [*]; done)), H', ⟨by have := HK1.out; omega⟩, by repeat (first | exact Drawn0.refl _ | apply Drawn0.step)⟩
      ·rw [if_neg c6] at H; exact absurd H (by simp)
     ·rw [if_neg c5] at H; exact absurd H (by simp)
    ·rw [if_neg c4] at H; have c4b0 : decide (x5_1 < (l0.length : Int)) = false := decide_eq_false c4; clear c4; obtain rfl := Option.some.inj H
     go_wp2
     repeat (go_quiet (fail); try go_wp2)
     go_ret; exact ⟨by first | rfl | (simp; done) | (simp [*]; done), by repeat (first | exact Drawn0.refl _ | apply Drawn0.step)⟩
 ·rw [if_neg c3] at H; have c3b0 : ((l0.length : Int) == (l1.length : Int)) = false := beq_eq_false_iff_ne.mpr c3; have c3b1 : ((l0.length : Int) != (l1.length : Int)) = true := bne_iff_ne.mpr c3; have c3b2 : (l0.length == l1.length) = false := by first | simpa using c3 | (simp at c3 ⊢; omega)
  obtain rfl := Option.some.inj H; go_enter Try.func94, Try.ntmps94
  go_wp2
  repeat (go_quiet (fail); try go_wp2)
  go_ret; exact ⟨by first | rfl | (simp; done) | (simp [*]; done), by repeat (first | exact Drawn0.refl _ | apply Drawn0.step)⟩
def mapmakerref14_SameNode.f (k : Nat) (a0_0 : Int) (a0_1 : Int) (a0_2 : Int) (l0_3 : List (S130)) (a1_0 : Int) (a1_1 : Int) (a1_2 : Int) (l1_3 : List (S130)) : Option (Bool) := if a0_0 = a1_0 then (if (a0_1 == a1_1 && (a0_2 == a1_2)) = true then ((mapmakerref14_SameTags.f k l0_3 l1_3).bind fun t775 => (some t775)) else (some false)) else (some false)
theorem mapmakerref14_SameNode.mono : ∀ a0 a1 a2 a3 a4 a5 a6 a7 k, LeO (mapmakerref14_SameNode.f k a0 a1 a2 a3 a4 a5 a6 a7) (mapmakerref14_SameNode.f (k + 1) a0 a1 a2 a3 a4 a5 a6 a7) := by
 intro a0 a1 a2 a3 a4 a5 a6 a7 k; unfold mapmakerref14_SameNode.f
 repeat' first
   | (with_reducible exact mapmakerref14_SameTags.mono _ _ _)
   | (with_reducible exact LeO.refl _)
   | (with_reducible exact LeO.none _)
   | (with_reducible refine LeO.ite ?_ ?_)
   | (with_reducible refine LeO.eB ?_ (fun _ => ?_))
   | (with_reducible refine LeO.bind ?_ (fun _ => ?_))
   | exact mapmakerref14_SameTags.mono _ _ _
   | exact LeO.none _
   | refine LeO.ite ?_ ?_
   | refine LeO.bind ?_ (fun _ => ?_)
set_option maxHeartbeats 8000000 in
set_option maxRecDepth 100000 in
theorem mapmakerref14_SameNode.calls (k : Nat) (a0_0 : Int) (a0_1 : Int) (a0_2 : Int) (A0_3 : Option Addr) (c0_3 : Nat) (l0_3 : List (S130)) (a1_0 : Int) (a1_1 : Int) (a1_2 : Int) (A1_3 : Option Addr) (c1_3 : Nat) (l1_3 : List (S130)) (r : Bool) (w : World) (hr0_3 : Kd.C k130 w A0_3 l0_3.length l0_3) (hc0_3 : l0_3.length ≤ c0_3) (hr1_3 : Kd.C k130 w A1_3 l1_3.length l1_3) (hc1_3 : l1_3.length ≤ c1_3) (h : mapmakerref14_SameNode.f k a0_0 a0_1 a0_2 l0_3 a1_0 a1_1 a1_2 l1_3 = some r) :
  Calls Try.prog 47 #[.agg #[.int .i64 a0_0, .int .i64 a0_1, .int .i64 a0_2, .slice A0_3 l0_3.length c0_3], .agg #[.int .i64 a1_0, .int .i64 a1_1, .int .i64 a1_2, .slice A1_3 l1_3.length c1_3]] w fun e w' => e = .returned (.bool r) ∧ Below w.heap.size w w' := by
 have hu53 := Try.underlying53; have hu50 := Try.underlying50; have HR0_3 := aM hr0_3; have HC0_3 := aM hc0_3; clear hr0_3 hc0_3; have HR1_3 := aM hr1_3; have HC1_3 := aM hc1_3; clear hr1_3 hc1_3; have HB := aM (Below.refl w.heap.size w); have H : (if a0_0 = a1_0 then (if (a0_1 == a1_1 && (a0_2 == a1_2)) = true then ((mapmakerref14_SameTags.f k l0_3 l1_3).bind fun t775 => (some t775)) else (some false)) else (some false)) = some r := h; clear h
 by_cases c3 : a0_0 = a1_0
 ·rw [if_pos c3] at H; have c3b0 : (a0_0 == a1_0) = true := beq_iff_eq.mpr c3; have c3b1 : (a0_0 != a1_0) = false := bne_eq_false_iff_eq.mpr c3; clear c3
  by_cases c4 : (a0_1 == a1_1 && (a0_2 == a1_2)) = true
  ·rw [if_pos c4] at H; have c4b0 : (a0_1 == a1_1 && (a0_2 == a1_2)) = true := c4
   (try (have c4b1 : decide (a0_1 = a1_1 && (a0_2 == a1_2)) = true := by simpa using c4))
   (try (have c4b2 : (a0_1 == a1_1 && (a0_2 == a1_2)) = true := by simpa using c4))
   clear c4; replace H := Option.bind_eq_some_iff.mp H; obtain ⟨t775, A50, H⟩ := H; (try dsimp only at H); have A5 := aM A50; clear A50; obtain rfl := Option.some.inj H; go_enter Try.func47, Try.ntmps47
   go_wp2_with (first | ((with_reducible refine gate_dst (N := 2) rfl ?_); refine bx (N := 2) (cs := #[.int .i64 a0_0, .int .i64 a0_1, .int .i64 a0_2, .slice A0_3 l0_3.length c0_3]) (t := 53) ?_; intro gb773 hg w6 hbox hb; have BK773 := aM (hbox); have GE773 := aM (gw (w := w) hg); replace HB := aM (bS (bl) hb); clear hb hbox hg) | ((with_reducible refine gate_dst (N := 3) rfl ?_); refine bx (N := 3) (cs := #[.int .i64 a1_0, .int .i64 a1_1, .int .i64 a1_2, .slice A1_3 l1_3.length c1_3]) (t := 53) ?_; intro gb774 hg w7 hbox hb; have BK774 := aM (hbox); have GE774 := aM (gw (w := w) hg); obtain ⟨NB773_774, NB774_773⟩ := n2 BK773 hg; replace BK773 := aM (kB (kl BK773) hb); replace HB := aM (bS (bl) hb); clear hb hbox hg; have hn8 := nn NB773_774; have hz9 := bc4 BK773; have hz10 := bc4 BK774) | (go_at_call 94; (with_reducible refine (mapmakerref14_SameTags.calls k _ _ l0_3 _ _ l1_3 t775 _ ?side1 ?side2 ?side3 ?side4 A5.out).mono ?_); (case side1 => exact cl HR0_3); (case side2 => exact HC0_3.out); (case side3 => exact cl HR1_3); (case side4 => exact HC1_3.out); rintro e w' ⟨rfl, ⟨nd, rfl⟩⟩))
   go_ret; exact ⟨by first | rfl | (simp [errW_none, errW_some] <;> rfl) | (simp [*, errW_none, errW_some] <;> rfl), bl⟩
  ·rw [if_neg c4] at H; have c4b0 : (a0_1 == a1_1 && (a0_2 == a1_2)) = false := by simpa using c4
   (try (have c4b1 : decide (a0_1 = a1_1 && (a0_2 == a1_2)) = false := by simpa using c4))
   (try (have c4b2 : (a0_1 == a1_1 && (a0_2 == a1_2)) = false := by simpa using c4))
   (try (have c4b3 : ¬ (a0_1 = a1_1 && (a0_2 == a1_2)) := by simpa using c4))
   clear c4; obtain rfl := Option.some.inj H; go_enter Try.func47, Try.ntmps47
   go_wp2_with (first | ((with_reducible refine gate_dst (N := 2) rfl ?_); refine bx (N := 2) (cs := #[.int .i64 a0_0, .int .i64 a0_1, .int .i64 a0_2, .slice A0_3 l0_3.length c0_3]) (t := 53) ?_; intro gb773 hg w11 hbox hb; have BK773 := aM (hbox); have GE773 := aM (gw (w := w) hg); replace HB := aM (bS (bl) hb); clear hb hbox hg) | ((with_reducible refine gate_dst (N := 3) rfl ?_); refine bx (N := 3) (cs := #[.int .i64 a1_0, .int .i64 a1_1, .int .i64 a1_2, .slice A1_3 l1_3.length c1_3]) (t := 53) ?_; intro gb774 hg w12 hbox hb; have BK774 := aM (hbox); have GE774 := aM (gw (w := w) hg); obtain ⟨NB773_774, NB774_773⟩ := n2 BK773 hg; replace BK773 := aM (kB (kl BK773) hb); replace HB := aM (bS (bl) hb); clear hb hbox hg; have hn13 := nn NB773_774; have hz14 := bc4 BK773; have hz15 := bc4 BK774))
   go_ret; exact ⟨by first | rfl | (simp [errW_none, errW_some] <;> rfl) | (simp [*, errW_none, errW_some] <;> rfl), bl⟩
 ·rw [if_neg c3] at H; have c3b0 : (a0_0 == a1_0) = false := beq_eq_false_iff_ne.mpr c3; have c3b1 : (a0_0 != a1_0) = true := bne_iff_ne.mpr c3; obtain rfl := Option.some.inj H; go_enter Try.func47, Try.ntmps47
  go_wp2_with (first | ((with_reducible refine gate_dst (N := 2) rfl ?_); refine bx (N := 2) (cs := #[.int .i64 a0_0, .int .i64 a0_1, .int .i64 a0_2, .slice A0_3 l0_3.length c0_3]) (t := 53) ?_; intro gb773 hg w16 hbox hb; have BK773 := aM (hbox); have GE773 := aM (gw (w := w) hg); replace HB := aM (bS (bl) hb); clear hb hbox hg) | ((with_reducible refine gate_dst (N := 3) rfl ?_); refine bx (N := 3) (cs := #[.int .i64 a1_0, .int .i64 a1_1, .int .i64 a1_2, .slice A1_3 l1_3.length c1_3]) (t := 53) ?_; intro gb774 hg w17 hbox hb; have BK774 := aM (hbox); have GE774 := aM (gw (w := w) hg); obtain ⟨NB773_774, NB774_773⟩ := n2 BK773 hg; replace BK773 := aM (kB (kl BK773) hb); replace HB := aM (bS (bl) hb); clear hb hbox hg; have hn18 := nn NB773_774; have hz19 := bc4 BK773; have hz20 := bc4 BK774))
  go_ret; exact ⟨by first | rfl | (simp [errW_none, errW_some] <;> rfl) | (simp [*, errW_none, errW_some] <;> rfl), bl⟩
mutual
def mapmakerref14_SameWay.j0 : Nat → Bool → Int → List Int → List (S130) → Int → List Int → List (S130) → Option (Bool)
 | 0, _, _, _, _, _, _, _ => none
 | k + 1, x27, x777000, x777001, x777002, x778000, x778001, x778002 => if x27 = true then (some false) else (mapmakerref14_SameWay.l0 k 0 x777000 x777001 x777002 x778000 x778001 x778002)
def mapmakerref14_SameWay.l0 : Nat → Int → Int → List Int → List (S130) → Int → List Int → List (S130) → Option (Bool)
 | 0, _, _, _, _, _, _, _ => none
 | k + 1, x5, x777000, x777001, x777002, x778000, x778001, x778002 => if x5 < (x777001.length : Int) then (if 0 ≤ x5 then (if x5 < (x778001.length : Int) then (if (rd x777001 x5) = (rd x778001 x5) then (mapmakerref14_SameWay.l0 k (wrap64 (x5 + 1)) x777000 x777001 x777002 x778000 x778001 x778002) else (some false)) else (none)) else (none)) else (some true)
end
def mapmakerref14_SameWay.f (k : Nat) (a0_0 : Int) (l0_1 : List Int) (l0_2 : List (S130)) (a1_0 : Int) (l1_1 : List Int) (l1_2 : List (S130)) : Option (Bool) := if a0_0 = a1_0 then (if (l0_1.length : Int) = (l1_1.length : Int) then ((mapmakerref14_SameTags.f k l0_2 l1_2).bind fun t778 => (mapmakerref14_SameWay.j0 k (!t778) a0_0 l0_1 l0_2 a1_0 l1_1 l1_2)) else (mapmakerref14_SameWay.j0 k true a0_0 l0_1 l0_2 a1_0 l1_1 l1_2)) else (mapmakerref14_SameWay.j0 k true a0_0 l0_1 l0_2 a1_0 l1_1 l1_2)
theorem mapmakerref14_SameWay.mono_l : ∀ k, (∀ y0 y1 y2 y3 y4 y5 y6, LeO (mapmakerref14_SameWay.j0 k y0 y1 y2 y3 y4 y5 y6) (mapmakerref14_SameWay.j0 (k + 1) y0 y1 y2 y3 y4 y5 y6)) ∧ (∀ y0 y1 y2 y3 y4 y5 y6, LeO (mapmakerref14_SameWay.l0 k y0 y1 y2 y3 y4 y5 y6) (mapmakerref14_SameWay.l0 (k + 1) y0 y1 y2 y3 y4 y5 y6))
 | 0 => ⟨fun _ _ _ _ _ _ _ r h => by simp [mapmakerref14_SameWay.j0] at h, fun _ _ _ _ _ _ _ r h => by simp [mapmakerref14_SameWay.l0] at h⟩
 | k + 1 => by
  obtain ⟨ih0, ih1⟩ := mapmakerref14_SameWay.mono_l k
  refine ⟨?_, ?_⟩
  ·intro y0 y1 y2 y3 y4 y5 y6
   unfold mapmakerref14_SameWay.j0
   repeat' first
   | (with_reducible exact ih0 _ _ _ _ _ _ _)
   | (with_reducible exact ih1 _ _ _ _ _ _ _)
   | (with_reducible exact mapmakerref14_SameTags.mono _ _ _)
   | (with_reducible exact LeO.refl _)
   | (with_reducible exact LeO.none _)
   | (with_reducible refine LeO.ite ?_ ?_)
   | (with_reducible refine LeO.eB ?_ (fun _ => ?_))
   | (with_reducible refine LeO.bind ?_ (fun _ => ?_))
   | exact ih0 _ _ _ _ _ _ _
   | exact ih1 _ _ _ _ _ _ _
   | exact mapmakerref14_SameTags.mono _ _ _
   | exact LeO.none _
   | refine LeO.ite ?_ ?_
   | refine LeO.bind ?_ (fun _ => ?_)
  ·intro y0 y1 y2 y3 y4 y5 y6
   unfold mapmakerref14_SameWay.l0
   repeat' first
   | (with_reducible exact ih0 _ _ _ _ _ _ _)
   | (with_reducible exact ih1 _ _ _ _ _ _ _)
   | (with_reducible exact mapmakerref14_SameTags.mono _ _ _)
   | (with_reducible exact LeO.refl _)
   | (with_reducible exact LeO.none _)
   | (with_reducible refine LeO.ite ?_ ?_)
   | (with_reducible refine LeO.eB ?_ (fun _ => ?_))
   | (with_reducible refine LeO.bind ?_ (fun _ => ?_))
   | exact ih0 _ _ _ _ _ _ _
   | exact ih1 _ _ _ _ _ _ _
   | exact mapmakerref14_SameTags.mono _ _ _
   | exact LeO.none _
   | refine LeO.ite ?_ ?_
   | refine LeO.bind ?_ (fun _ => ?_)
theorem mapmakerref14_SameWay.mono : ∀ a0 a1 a2 a3 a4 a5 k, LeO (mapmakerref14_SameWay.f k a0 a1 a2 a3 a4 a5) (mapmakerref14_SameWay.f (k + 1) a0 a1 a2 a3 a4 a5) := by
 intro a0 a1 a2 a3 a4 a5 k; obtain ⟨ih0, ih1⟩ := mapmakerref14_SameWay.mono_l k; unfold mapmakerref14_SameWay.f
 repeat' first
   | (with_reducible exact ih0 _ _ _ _ _ _ _)
   | (with_reducible exact ih1 _ _ _ _ _ _ _)
   | (with_reducible exact mapmakerref14_SameTags.mono _ _ _)
   | (with_reducible exact LeO.refl _)
   | (with_reducible exact LeO.none _)
   | (with_reducible refine LeO.ite ?_ ?_)
   | (with_reducible refine LeO.eB ?_ (fun _ => ?_))
   | (with_reducible refine LeO.bind ?_ (fun _ => ?_))
   | exact ih0 _ _ _ _ _ _ _
   | exact ih1 _ _ _ _ _ _ _
   | exact mapmakerref14_SameTags.mono _ _ _
   | exact LeO.none _
   | refine LeO.ite ?_ ?_
   | refine LeO.bind ?_ (fun _ => ?_)
set_option maxHeartbeats 8000000 in
set_option maxRecDepth 100000 in
theorem mapmakerref14_SameWay.calls (k : Nat) (a0_0 : Int) (A0_1 : Option Addr) (c0_1 : Nat) (l0_1 : List Int) (A0_2 : Option Addr) (c0_2 : Nat) (l0_2 : List (S130)) (a1_0 : Int) (A1_1 : Option Addr) (c1_1 : Nat) (l1_1 : List Int) (A1_2 : Option Addr) (c1_2 : Nat) (l1_2 : List (S130)) (r : Bool) (w : World) (hr0_1 : Kd.C (Kd.int .i64) w A0_1 l0_1.length l0_1) (hc0_1 : l0_1.length ≤ c0_1) (hr0_2 : Kd.C k130 w A0_2 l0_2.length l0_2) (hc0_2 : l0_2.length ≤ c0_2) (hr1_1 : Kd.C (Kd.int .i64) w A1_1 l1_1.length l1_1) (hc1_1 : l1_1.length ≤ c1_1) (hr1_2 : Kd.C k130 w A1_2 l1_2.length l1_2) (hc1_2 : l1_2.length ≤ c1_2) (h : mapmakerref14_SameWay.f k a0_0 l0_1 l0_2 a1_0 l1_1 l1_2 = some r) :
  Calls Try.prog 48 #[.agg #[.int .i64 a0_0, .slice A0_1 l0_1.length c0_1, .slice A0_2 l0_2.length c0_2], .agg #[.int .i64 a1_0, .slice A1_1 l1_1.length c1_1, .slice A1_2 l1_2.length c1_2]] w fun e w' => e = .returned (.bool r) ∧ Below w.heap.size w w' := by
 have hu56 := Try.underlying56; have HR0_1 := aM hr0_1; have HC0_1 := aM hc0_1; clear hr0_1 hc0_1; have HR0_2 := aM hr0_2; have HC0_2 := aM hc0_2; clear hr0_2 hc0_2; have HR1_1 := aM hr1_1; have HC1_1 := aM hc1_1; clear hr1_1 hc1_1; have HR1_2 := aM hr1_2; have HC1_2 := aM hc1_2; clear hr1_2 hc1_2; have HB := aM (Below.refl w.heap.size w); have H : (if a0_0 = a1_0 then (if (l0_1.length : Int) = (l1_1.length : Int) then ((mapmakerref14_SameTags.f k l0_2 l1_2).bind fun t778 => (mapmakerref14_SameWay.j0 k (!t778) a0_0 l0_1 l0_2 a1_0 l1_1 l1_2)) else (mapmakerref14_SameWay.j0 k true a0_0 l0_1 l0_2 a1_0 l1_1 l1_2)) else (mapmakerref14_SameWay.j0 k true a0_0 l0_1 l0_2 a1_0 l1_1 l1_2)) = some r := h; clear h; have HC3 := aM H; clear H; go_enter Try.func48, Try.ntmps48
 go_upto_region 1 with (first | ((with_reducible refine gate_dst (N := 2) rfl ?_); (try (refine gate_guard (by rfl) ?_; dsimp only)); refine bx (N := 2) (cs := #[.int .i64 a0_0, .slice A0_1 l0_1.length c0_1, .slice A0_2 l0_2.length c0_2]) (t := 56) ?_; intro gb776 hg w4 hbox hb; have BK776 := aM (hbox); have GE776 := aM (gw (w := w) hg); replace HB := aM (bS (bl) hb); clear hb hbox hg) | ((with_reducible refine gate_dst (N := 3) rfl ?_); (try (refine gate_guard (by rfl) ?_; dsimp only)); refine bx (N := 3) (cs := #[.int .i64 a1_0, .slice A1_1 l1_1.length c1_1, .slice A1_2 l1_2.length c1_2]) (t := 56) ?_; intro gb777 hg w5 hbox hb; have BK777 := aM (hbox); have GE777 := aM (gw (w := w) hg); obtain ⟨NB776_777, NB777_776⟩ := n2 BK776 hg; replace BK776 := aM (kB (kl BK776) hb); replace HB := aM (bS (bl) hb); clear hb hbox hg))
 repeat (go_quiet (first | ((with_reducible refine gate_dst (N := 2) rfl ?_); (try (refine gate_guard (by rfl) ?_; dsimp only)); refine bx (N := 2) (cs := #[.int .i64 a0_0, .slice A0_1 l0_1.length c0_1, .slice A0_2 l0_2.length c0_2]) (t := 56) ?_; intro gb776 hg w4 hbox hb; have BK776 := aM (hbox); have GE776 := aM (gw (w := w) hg); replace HB := aM (bS (bl) hb); clear hb hbox hg) | ((with_reducible refine gate_dst (N := 3) rfl ?_); (try (refine gate_guard (by rfl) ?_; dsimp only)); refine bx (N := 3) (cs := #[.int .i64 a1_0, .slice A1_1 l1_1.length c1_1, .slice A1_2 l1_2.length c1_2]) (t := 56) ?_; intro gb777 hg w5 hbox hb; have BK777 := aM (hbox); have GE777 := aM (gw (w := w) hg); obtain ⟨NB776_777, NB777_776⟩ := n2 BK776 hg; replace BK776 := aM (kB (kl BK776) hb); replace HB := aM (bS (bl) hb); clear hb hbox hg)); go_upto_region 1 with (first | ((with_reducible refine gate_dst (N := 2) rfl ?_); (try (refine gate_guard (by rfl) ?_; dsimp only)); refine bx (N := 2) (cs := #[.int .i64 a0_0, .slice A0_1 l0_1.length c0_1, .slice A0_2 l0_2.length c0_2]) (t := 56) ?_; intro gb776 hg w4 hbox hb; have BK776 := aM (hbox); have GE776 := aM (gw (w := w) hg); replace HB := aM (bS (bl) hb); clear hb hbox hg) | ((with_reducible refine gate_dst (N := 3) rfl ?_); (try (refine gate_guard (by rfl) ?_; dsimp only)); refine bx (N := 3) (cs := #[.int .i64 a1_0, .slice A1_1 l1_1.length c1_1, .slice A1_2 l1_2.length c1_2]) (t := 56) ?_; intro gb777 hg w5 hbox hb; have BK777 := aM (hbox); have GE777 := aM (gw (w := w) hg); obtain ⟨NB776_777, NB777_776⟩ := n2 BK776 hg; replace BK776 := aM (kB (kl BK776) hb); replace HB := aM (bS (bl) hb); clear hb hbox hg)))
 (try simp only [Act.put, sA, sB, sC])
 go_cut [27] (fun v27 wc => ∃ (kq : Nat) (x27_2 : Bool), v27 = .bool x27_2 ∧ Aside0 (mapmakerref14_SameWay.j0 kq x27_2 a0_0 l0_1 l0_2 a1_0 l1_1 l1_2 = some r) ∧ Aside0 (kq ≤ k) ∧ Aside0 (wc.heap[gb776]? = some (.cells #[.int .i64 a0_0, (.slice A0_1 l0_1.length c0_1), (.slice A0_2 l0_2.length c0_2)] 56 (0, 0))) ∧ Aside0 (wc.heap[gb777]? = some (.cells #[.int .i64 a1_0, (.slice A1_1 l1_1.length c1_1), (.slice A1_2 l1_2.length c1_2)] 56 (0, 0))) ∧ Aside0 (Below w.heap.size w wc))
 case first =>
  have H := HC3.out; clear HC3
  by_cases c6 : a0_0 = a1_0
  ·rw [if_pos c6] at H; have c6b0 : (a0_0 == a1_0) = true := beq_iff_eq.mpr c6; have c6b1 : (a0_0 != a1_0) = false := bne_eq_false_iff_eq.mpr c6; clear c6
   (first | rw [c6b0] | (simp only [i64_w, i32_w]; rw [c6b0]) | skip)
   by_cases c7 : (l0_1.length : Int) = (l1_1.length : Int)
   ·rw [if_pos c7] at H; have c7b0 : ((l0_1.length : Int) == (l1_1.length : Int)) = true := beq_iff_eq.mpr c7; have c7b1 : ((l0_1.length : Int) != (l1_1.length : Int)) = false := bne_eq_false_iff_eq.mpr c7; have c7b2 : (l0_1.length == l1_1.length) = true := by first | simpa using c7 | (simp at c7 ⊢; omega)
    clear c7; replace H := Option.bind_eq_some_iff.mp H; obtain ⟨t778, A80, H⟩ := H; (try dsimp only at H); have A8 := aM A80; clear A80; have H' := aM H; clear H; have hn9 := nn NB776_777; have hz10 := bc3 BK776; have hz11 := bc3 BK777
    go_wp2_with (first | (go_at_call 94; (with_reducible refine (mapmakerref14_SameTags.calls k _ _ l0_2 _ _ l1_2 t778 _ ?side1 ?side2 ?side3 ?side4 A8.out).mono ?_); (case side1 => exact cl HR0_2); (case side2 => exact HC0_2.out); (case side3 => exact cl HR1_2); (case side4 => exact HC1_2.out); rintro e w' ⟨rfl, ⟨nd, rfl⟩⟩; (try first | exact ⟨rfl, _, World.drewN_drewN _ _ _⟩ | exact ⟨rfl, _, Eq.trans (World.drewN_drewN _ _ _) (congrArg (World.drewN _) (Nat.add_assoc _ _ _))⟩)))
    repeat (go_quiet (first | (go_at_call 94; (with_reducible refine (mapmakerref14_SameTags.calls k _ _ l0_2 _ _ l1_2 t778 _ ?side1 ?side2 ?side3 ?side4 A8.out).mono ?_); (case side1 => exact cl HR0_2); (case side2 => exact HC0_2.out); (case side3 => exact cl HR1_2); (case side4 => exact HC1_2.out); rintro e w' ⟨rfl, ⟨nd, rfl⟩⟩; (try first | exact ⟨rfl, _, World.drewN_drewN _ _ _⟩ | exact ⟨rfl, _, Eq.trans (World.drewN_drewN _ _ _) (congrArg (World.drewN _) (Nat.add_assoc _ _ _))⟩))); try go_wp2_with (first | (go_at_call 94; (with_reducible refine (mapmakerref14_SameTags.calls k _ _ l0_2 _ _ l1_2 t778 _ ?side1 ?side2 ?side3 ?side4 A8.out).mono ?_); (case side1 => exact cl HR0_2); (case side2 => exact HC0_2.out); (case side3 => exact cl HR1_2); (case side4 => exact HC1_2.out); rintro e w' ⟨rfl, ⟨nd, rfl⟩⟩; (try first | exact ⟨rfl, _, World.drewN_drewN _ _ _⟩ | exact ⟨rfl, _, Eq.trans (World.drewN_drewN _ _ _) (congrArg (World.drewN _) (Nat.add_assoc _ _ _))⟩))))
    go_meet
    case rel => exact ⟨_, (!t778), (by first | rfl | (simp; done) | (simp [*]; done)), H', ⟨by first | omega | exact Nat.le_refl _⟩, ⟨kl BK776⟩, ⟨kl BK777⟩, ⟨bl⟩⟩
   ·rw [if_neg c7] at H; have c7b0 : ((l0_1.length : Int) == (l1_1.length : Int)) = false := beq_eq_false_iff_ne.mpr c7; have c7b1 : ((l0_1.length : Int) != (l1_1.length : Int)) = true := bne_iff_ne.mpr c7; have c7b2 : (l0_1.length == l1_1.length) = false := by first | simpa using c7 | (simp at c7 ⊢; omega)
    have H' := aM H; clear H; have hn12 := nn NB776_777; have hz13 := bc3 BK776; have hz14 := bc3 BK777
    go_wp2
    repeat (go_quiet (fail); try go_wp2)
    go_meet
    case rel => exact ⟨_, (true), (by first | rfl | (simp; done) | (simp [*]; done)), H', ⟨by first | omega | exact Nat.le_refl _⟩, ⟨kl BK776⟩, ⟨kl BK777⟩, ⟨bl⟩⟩
  ·rw [if_neg c6] at H; have c6b0 : (a0_0 == a1_0) = false := beq_eq_false_iff_ne.mpr c6; have c6b1 : (a0_0 != a1_0) = true := bne_iff_ne.mpr c6
   (first | rw [c6b0] | (simp only [i64_w, i32_w]; rw [c6b0]) | skip)
   have H' := aM H; clear H; have hn15 := nn NB776_777; have hz16 := bc3 BK776; have hz17 := bc3 BK777
   go_wp2
   repeat (go_quiet (fail); try go_wp2)
   go_meet
   case rel => exact ⟨_, (true), (by first | rfl | (simp; done) | (simp [*]; done)), H', ⟨by first | omega | exact Nat.le_refl _⟩, ⟨kl BK776⟩, ⟨kl BK777⟩, ⟨bl⟩⟩
 case rest =>
  clear HC3; (try clear c6); (try clear c6b0); (try clear c6b1); (try clear c7); (try clear c7b0); (try clear c7b1); (try clear c7b2); (try clear hz10); (try clear hz11); (try clear hz13); (try clear hz14); (try clear hz16); (try clear hz17); obtain ⟨kq, x27_2, rfl, HA, HJ2, BK776, BK777, HB⟩ := hcut
  cases kq with
  | zero => exact absurd HA.out (by simp [mapmakerref14_SameWay.j0])
  | succ kj2 =>
   have H := HA.out; clear HA; simp only [mapmakerref14_SameWay.j0] at H
   by_cases c18 : x27_2 = true
   ·subst c18; have H1 : (some false) = some r := by rw [if_pos rfl] at H; exact H
    clear H; have H := H1; clear H1; obtain rfl := Option.some.inj H
    go_wp2
    repeat (go_quiet (fail); try go_wp2)
    go_ret; exact ⟨by first | rfl | (simp [errW_none, errW_some] <;> rfl) | (simp [*, errW_none, errW_some] <;> rfl), bl⟩
   ·replace c18 := Bool.eq_false_iff.mpr c18; subst c18; have H1 : (mapmakerref14_SameWay.l0 kj2 0 a0_0 l0_1 l0_2 a1_0 l1_1 l1_2) = some r := by rw [if_neg (show ¬ (false = true) by decide)] at H; exact H
    clear H; have H := H1; clear H1; have H' := aM H; clear H
    go_wp2
    repeat (go_quiet (fail); try go_wp2)
    go_loopg [5] kj2 (fun kq v5 w' => ∃ (x5_2 : Int), v5 = .int .i64 x5_2 ∧ Aside0 (mapmakerref14_SameWay.l0 kq x5_2 a0_0 l0_1 l0_2 a1_0 l1_1 l1_2 = some r) ∧ Aside0 (kq ≤ kj2) ∧ Aside0 (w'.heap[gb776]? = some (.cells #[.int .i64 a0_0, (.slice A0_1 l0_1.length c0_1), (.slice A0_2 l0_2.length c0_2)] 56 (0, 0))) ∧ Aside0 (w'.heap[gb777]? = some (.cells #[.int .i64 a1_0, (.slice A1_1 l1_1.length c1_1), (.slice A1_2 l1_2.length c1_2)] 56 (0, 0))) ∧ Aside0 (Below w.heap.size w w'))
    case atStart => exact ⟨(0), (by first | rfl | (simp; done) | (simp [*]; done)), H', ⟨Nat.le_refl _⟩, ⟨kl BK776⟩, ⟨kl BK777⟩, ⟨bl⟩⟩
    case round =>
     clear H'; (try clear c6); (try clear c6b0); (try clear c6b1); (try clear c7); (try clear c7b0); (try clear c7b1); (try clear c7b2); (try clear c18); (try clear hz10); (try clear hz11); (try clear hz13); (try clear hz14); (try clear hz16); (try clear hz17); obtain ⟨x5_2, rfl, HA, HK2, BK776, BK777, HB⟩ := hrel
     cases gk with
     | zero => exact absurd HA.out (by simp [mapmakerref14_SameWay.l0])
     | succ k2 =>
      have H := HA.out; clear HA; simp only [mapmakerref14_SameWay.l0] at H
      by_cases c19 : x5_2 < (l0_1.length : Int)
      ·rw [if_pos c19] at H; have c19b0 : decide (x5_2 < (l0_1.length : Int)) = true := decide_eq_true c19; clear c19
       by_cases c20 : 0 ≤ x5_2
       ·rw [if_pos c20] at H; have c20b0 : decide (0 ≤ x5_2) = true := decide_eq_true c20; clear c20
        by_cases c21 : x5_2 < (l1_1.length : Int)
        ·rw [if_pos c21] at H; have c21b0 : decide (x5_2 < (l1_1.length : Int)) = true := decide_eq_true c21; clear c21
         by_cases c22 : (rd l0_1 x5_2) = (rd l1_1 x5_2)
         ·rw [if_pos c22] at H; have c22b0 : ((rd l0_1 x5_2) == (rd l1_1 x5_2)) = true := beq_iff_eq.mpr c22; have c22b1 : ((rd l0_1 x5_2) != (rd l1_1 x5_2)) = false := bne_eq_false_iff_eq.mpr c22; clear c22; have H' := aM H; clear H; have hn23 := nn NB776_777; have hz24 := bc3 BK776; have p779 : 0 ≤ (x5_2 : Int) := oT; have q779 : x5_2 < (l0_1.length : Int) := oT; obtain ⟨ad779, e779, hx779_0⟩ := Kd.at_int HR0_1.out x5_2 p779 q779; cases e779
          replace hx779_0 := hs HB.out hx779_0; replace p779 := eq_true p779; replace q779 := eq_true q779; have hz25 := bc3 BK777; have p780 : 0 ≤ (x5_2 : Int) := oT; have q780 : x5_2 < (l1_1.length : Int) := oT; obtain ⟨ad780, e780, hx780_0⟩ := Kd.at_int HR1_1.out x5_2 p780 q780; cases e780
          replace hx780_0 := hs HB.out hx780_0; replace p780 := eq_true p780; replace q780 := eq_true q780
          go_wp2
          repeat (go_quiet (fail); try go_wp2)
          go_roundg k2
          case measure => have := HJ2.out; have := HK2.out; omega
          case rel => exact ⟨(wrap64 (x5_2 + 1)), (by first | rfl | (simp; done) | (simp [*]; done)), H', ⟨by have := HJ2.out; have := HK2.out; omega⟩, ⟨kl BK776⟩, ⟨kl BK777⟩, ⟨bl⟩⟩
         ·rw [if_neg c22] at H; have c22b0 : ((rd l0_1 x5_2) == (rd l1_1 x5_2)) = false := beq_eq_false_iff_ne.mpr c22; have c22b1 : ((rd l0_1 x5_2) != (rd l1_1 x5_2)) = true := bne_iff_ne.mpr c22; obtain rfl := Option.some.inj H; have hn26 := nn NB776_777; have hz27 := bc3 BK776; have p779 : 0 ≤ (x5_2 : Int) := oT; have q779 : x5_2 < (l0_1.length : Int) := oT; obtain ⟨ad779, e779, hx779_0⟩ := Kd.at_int HR0_1.out x5_2 p779 q779; cases e779
          replace hx779_0 := hs HB.out hx779_0; replace p779 := eq_true p779; replace q779 := eq_true q779; have hz28 := bc3 BK777; have p780 : 0 ≤ (x5_2 : Int) := oT; have q780 : x5_2 < (l1_1.length : Int) := oT; obtain ⟨ad780, e780, hx780_0⟩ := Kd.at_int HR1_1.out x5_2 p780 q780; cases e780
          replace hx780_0 := hs HB.out hx780_0; replace p780 := eq_true p780; replace q780 := eq_true q780
          go_wp2
          repeat (go_quiet (fail); try go_wp2)
          go_ret; exact ⟨by first | rfl | (simp [errW_none, errW_some] <;> rfl) | (simp [*, errW_none, errW_some] <;> rfl), bl⟩
        ·rw [if_neg c21] at H; exact absurd H (by simp)
       ·rw [if_neg c20] at H; exact absurd H (by simp)
      ·rw [if_neg c19] at H; have c19b0 : decide (x5_2 < (l0_1.length : Int)) = false := decide_eq_false c19; clear c19; obtain rfl := Option.some.inj H; have hn29 := nn NB776_777; have hz30 := bc3 BK776
       go_wp2
       repeat (go_quiet (fail); try go_wp2)
       go_ret; exact ⟨by first | rfl | (simp [errW_none, errW_some] <;> rfl) | (simp [*, errW_none, errW_some] <;> rfl), bl⟩
end Go.Proofs.Ytefambkodalomaa.PAll
