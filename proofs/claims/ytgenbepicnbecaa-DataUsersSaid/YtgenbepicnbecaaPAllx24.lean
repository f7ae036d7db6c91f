-- out of a driver of this session's prover over the kit's print: Lean checks it
import Derived.Test.YtgenbepicnbecaaPAllx0
import Derived.Test.YtgenbepicnbecaaPAllx1
namespace Go.Proofs.Ytgenbepicnbecaa.PAll
open Go.Proofs.YtgenbepicnbecaaG Go.Shelf Go.Lib
open Go.RowKit Go.Proofs.YtgenbepicnbecaaW.PrintWords Go.Proofs.YtgenbepicnbecaaW.PrintLast Go.Proofs.YtgenbepicnbecaaW.PrintMore
attribute [local go_sem] max2_int min2_int max_two min_two max_three min_three max_four min_four   -- for this text's walks alone
set_option linter.unusedVariables false
set_option linter.unusedSimpArgs false
attribute [local go_sem high] eqA34
def mapmakerref14_Less.f (a0_0 : Int) (a0_1 : Int) (a1_0 : Int) (a1_1 : Int) : Option (Bool) := if a0_0 < a1_0 then (some true) else (if a0_0 = a1_0 then (some (decide (a0_1 < a1_1))) else (some false))
set_option maxHeartbeats 8000000 in
set_option maxRecDepth 100000 in
theorem mapmakerref14_Less.calls (a0_0 : Int) (a0_1 : Int) (a1_0 : Int) (a1_1 : Int) (r : Bool) (w : World) (h : mapmakerref14_Less.f a0_0 a0_1 a1_0 a1_1 = some r) :
  Calls Try.prog 35 #[.agg #[.int .i64 a0_0, .int .i64 a0_1], .agg #[.int .i64 a1_0, .int .i64 a1_1]] w fun e w' => e = .returned (.bool r) ∧ Below w.heap.size w w' := by
 have hu34 := Try.underlying34
 have HB := aM (Below.refl w.heap.size w)
 have H : (if a0_0 < a1_0 then (some true) else (if a0_0 = a1_0 then (some (decide (a0_1 < a1_1))) else (some false))) = some r := h
 clear h
 by_cases c3 : a0_0 < a1_0
 ·rw [if_pos c3] at H
  have c3b0 : decide (a0_0 < a1_0) = true := decide_eq_true c3
  clear c3
  obtain rfl := Option.some.inj H
  go_enter Try.func35, Try.ntmps35
  go_wp2_with (first | ((with_reducible refine gate_dst (N := 2) rfl ?_); refine bx (N := 2) (cs := #[.int .i64 a0_0, .int .i64 a0_1]) (t := 34) ?_; intro gb341 hg w4 hbox hb; have n0_ := aM (bS (bl) hb); have n1_ := aM (hbox); have n3_ := aM (gw (w := w) hg); (try clear HB); have HB := n0_; have BK341 := n1_; have GE341 := n3_; clear n0_ n1_ n3_ hb hbox hg) | ((with_reducible refine gate_dst (N := 3) rfl ?_); refine bx (N := 3) (cs := #[.int .i64 a1_0, .int .i64 a1_1]) (t := 34) ?_; intro gb342 hg w5 hbox hb; have n0_ := aM (kB (kl BK341) hb); have n1_ := aM (bS (bl) hb); have n2_ := aM (hbox); have n4_ := aM (gw (w := w) hg); have n5_ := aM (nb BK341 hg); have n6_ := aM (nb BK341 hg).symm; (try clear BK341); (try clear HB); have BK341 := n0_; have HB := n1_; have BK342 := n2_; have GE342 := n4_; have NB341_342 := n5_; have NB342_341 := n6_; clear n0_ n1_ n2_ n4_ n5_ n6_ hb hbox hg; have hnb6 := NB341_342.out; have hnc6 := NB342_341.out; obtain ⟨hcz7_0, hcz7_1, hfz7_0, hfz7_1⟩ := bc2 BK341; obtain ⟨hcz8_0, hcz8_1, hfz8_0, hfz8_1⟩ := bc2 BK342))
  go_ret
  exact ⟨by first | rfl | (simp [errW_none, errW_some] <;> rfl) | (simp [*, errW_none, errW_some] <;> rfl), bl⟩
 ·rw [if_neg c3] at H
  have c3b0 : decide (a0_0 < a1_0) = false := decide_eq_false c3
  clear c3
  by_cases c9 : a0_0 = a1_0
  ·rw [if_pos c9] at H
   have c9b0 : (a0_0 == a1_0) = true := beq_iff_eq.mpr c9
   have c9b1 : (a0_0 != a1_0) = false := bne_eq_false_iff_eq.mpr c9
   clear c9
   obtain rfl := Option.some.inj H
   go_enter Try.func35, Try.ntmps35
   go_wp2_with (first | ((with_reducible refine gate_dst (N := 2) rfl ?_); refine bx (N := 2) (cs := #[.int .i64 a0_0, .int .i64 a0_1]) (t := 34) ?_; intro gb341 hg w10 hbox hb; have n0_ := aM (bS (bl) hb); have n1_ := aM (hbox); have n3_ := aM (gw (w := w) hg); (try clear HB); have HB := n0_; have BK341 := n1_; have GE341 := n3_; clear n0_ n1_ n3_ hb hbox hg) | ((with_reducible refine gate_dst (N := 3) rfl ?_); refine bx (N := 3) (cs := #[.int .i64 a1_0, .int .i64 a1_1]) (t := 34) ?_; intro gb342 hg w11 hbox hb; have n0_ := aM (kB (kl BK341) hb); have n1_ := aM (bS (bl) hb); have n2_ := aM (hbox); have n4_ := aM (gw (w := w) hg); have n5_ := aM (nb BK341 hg); have n6_ := aM (nb BK341 hg).symm; (try clear BK341); (try clear HB); have BK341 := n0_; have HB := n1_; have BK342 := n2_; have GE342 := n4_; have NB341_342 := n5_; have NB342_341 := n6_; clear n0_ n1_ n2_ n4_ n5_ n6_ hb hbox hg; have hnb12 := NB341_342.out; have hnc12 := NB342_341.out; obtain ⟨hcz13_0, hcz13_1, hfz13_0, hfz13_1⟩ := bc2 BK341; obtain ⟨hcz14_0, hcz14_1, hfz14_0, hfz14_1⟩ := bc2 BK342))
   go_ret
   exact ⟨by first | rfl | (simp [errW_none, errW_some] <;> rfl) | (simp [*, errW_none, errW_some] <;> rfl), bl⟩
  ·rw [if_neg c9] at H
   have c9b0 : (a0_0 == a1_0) = false := beq_eq_false_iff_ne.mpr c9
   have c9b1 : (a0_0 != a1_0) = true := bne_iff_ne.mpr c9
   obtain rfl := Option.some.inj H
   go_enter Try.func35, Try.ntmps35
   go_wp2_with (first | ((with_reducible refine gate_dst (N := 2) rfl ?_); refine bx (N := 2) (cs := #[.int .i64 a0_0, .int .i64 a0_1]) (t := 34) ?_; intro gb341 hg w15 hbox hb; have n0_ := aM (bS (bl) hb); have n1_ := aM (hbox); have n3_ := aM (gw (w := w) hg); (try clear HB); have HB := n0_; have BK341 := n1_; have GE341 := n3_; clear n0_ n1_ n3_ hb hbox hg) | ((with_reducible refine gate_dst (N := 3) rfl ?_); refine bx (N := 3) (cs := #[.int .i64 a1_0, .int .i64 a1_1]) (t := 34) ?_; intro gb342 hg w16 hbox hb; have n0_ := aM (kB (kl BK341) hb); have n1_ := aM (bS (bl) hb); have n2_ := aM (hbox); have n4_ := aM (gw (w := w) hg); have n5_ := aM (nb BK341 hg); have n6_ := aM (nb BK341 hg).symm; (try clear BK341); (try clear HB); have BK341 := n0_; have HB := n1_; have BK342 := n2_; have GE342 := n4_; have NB341_342 := n5_; have NB342_341 := n6_; clear n0_ n1_ n2_ n4_ n5_ n6_ hb hbox hg; have hnb17 := NB341_342.out; have hnc17 := NB342_341.out; obtain ⟨hcz18_0, hcz18_1, hfz18_0, hfz18_1⟩ := bc2 BK341; obtain ⟨hcz19_0, hcz19_1, hfz19_0, hfz19_1⟩ := bc2 BK342))
   go_ret
   exact ⟨by first | rfl | (simp [errW_none, errW_some] <;> rfl) | (simp [*, errW_none, errW_some] <;> rfl), bl⟩
end Go.Proofs.Ytgenbepicnbecaa.PAll
