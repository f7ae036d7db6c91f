-- out of a driver of this session's prover over the kit's print: Lean checks it
import Derived.Test.YtijoaohckgbneaaGreatPAllx0
import Derived.Test.YtijoaohckgbneaaGreatPAllx3
import Derived.Test.YtijoaohckgbneaaGreatPAllx11
namespace Go.Proofs.YtijoaohckgbneaaGreat.PAll
open Go.Proofs.YtijoaohckgbneaaGreatG Go.Shelf Go.Lib
open Go.RowKit Go.Proofs.YtijoaohckgbneaaGreatW.PrintWords Go.Proofs.YtijoaohckgbneaaGreatW.PrintLast Go.Proofs.YtijoaohckgbneaaGreatW.PrintMore
attribute [local go_sem] max2_int min2_int max_two min_two max_three min_three max_four min_four   -- for this text's walks alone
set_option linter.unusedVariables false
set_option linter.unusedSimpArgs false
attribute [local go_sem high] eqA112
mutual
def mapmakerref14_SameRel.j0 : Nat → Bool → Int → List (S112) → List (S129) → Int → List (S112) → List (S129) → Option (Bool)
 | 0, _, _, _, _, _, _, _ => none
 | k + 1, x27, x147000, x147001, x147002, x148000, x148001, x148002 => if x27 = true then (some false) else (mapmakerref14_SameRel.l0 k 0 x147000 x147001 x147002 x148000 x148001 x148002)
def mapmakerref14_SameRel.l0 : Nat → Int → Int → List (S112) → List (S129) → Int → List (S112) → List (S129) → Option (Bool)
 | 0, _, _, _, _, _, _, _ => none
 | k + 1, x5, x147000, x147001, x147002, x148000, x148001, x148002 => if x5 < (x147001.length : Int) then (if 0 ≤ x5 then (if x5 < (x148001.length : Int) then (if ((!(((rd_T112 x147001 x5).f0.f0) == ((rd_T112 x148001 x5).f0.f0)) || (!(((rd_T112 x147001 x5).f0.f1) == ((rd_T112 x148001 x5).f0.f1)))) || (!((((rd_T112 x147001 x5).f1).toList) == (((rd_T112 x148001 x5).f1).toList)))) = true then (some false) else (mapmakerref14_SameRel.l0 k (wrap64 (x5 + 1)) x147000 x147001 x147002 x148000 x148001 x148002)) else (none)) else (none)) else (some true)
end
def mapmakerref14_SameRel.f (k : Nat) (a0_0 : Int) (l0_1 : List (S112)) (l0_2 : List (S129)) (a1_0 : Int) (l1_1 : List (S112)) (l1_2 : List (S129)) : Option (Bool) := if a0_0 = a1_0 then (if (l0_1.length : Int) = (l1_1.length : Int) then ((mapmakerref14_SameTags.f k l0_2 l1_2).bind fun t148 => (mapmakerref14_SameRel.j0 k (!t148) a0_0 l0_1 l0_2 a1_0 l1_1 l1_2)) else (mapmakerref14_SameRel.j0 k true a0_0 l0_1 l0_2 a1_0 l1_1 l1_2)) else (mapmakerref14_SameRel.j0 k true a0_0 l0_1 l0_2 a1_0 l1_1 l1_2)
theorem mapmakerref14_SameRel.mono_l : ∀ k, (∀ y0 y1 y2 y3 y4 y5 y6, LeO (mapmakerref14_SameRel.j0 k y0 y1 y2 y3 y4 y5 y6) (mapmakerref14_SameRel.j0 (k + 1) y0 y1 y2 y3 y4 y5 y6)) ∧ (∀ y0 y1 y2 y3 y4 y5 y6, LeO (mapmakerref14_SameRel.l0 k y0 y1 y2 y3 y4 y5 y6) (mapmakerref14_SameRel.l0 (k + 1) y0 y1 y2 y3 y4 y5 y6))
 | 0 => ⟨fun _ _ _ _ _ _ _ r h => by simp [mapmakerref14_SameRel.j0] at h, fun _ _ _ _ _ _ _ r h => by simp [mapmakerref14_SameRel.l0] at h⟩
 | k + 1 => by
  obtain ⟨ih0, ih1⟩ := mapmakerref14_SameRel.mono_l k
  refine ⟨?_, ?_⟩
  ·intro y0 y1 y2 y3 y4 y5 y6
   unfold mapmakerref14_SameRel.j0
   repeat' first
   | (with_reducible exact ih0 _ _ _ _ _ _ _)
   | (with_reducible exact ih1 _ _ _ _ _ _ _)
   | (with_reducible exact mapmakerref14_SameTags.mono _ _ _)
   | (with_reducible exact LeO.refl _)
   | (with_reducible exact LeO.none _)
   | (with_reducible refine LeO.ite ?_ ?_)
   | (with_reducible refine LeO.bind ?_ (fun _ => ?_))
   | exact ih0 _ _ _ _ _ _ _
   | exact ih1 _ _ _ _ _ _ _
   | exact mapmakerref14_SameTags.mono _ _ _
   | exact LeO.none _
   | refine LeO.ite ?_ ?_
   | refine LeO.bind ?_ (fun _ => ?_)
  ·intro y0 y1 y2 y3 y4 y5 y6
   unfold mapmakerref14_SameRel.l0
   repeat' first
   | (with_reducible exact ih0 _ _ _ _ _ _ _)
   | (with_reducible exact ih1 _ _ _ _ _ _ _)
   | (with_reducible exact mapmakerref14_SameTags.mono _ _ _)
   | (with_reducible exact LeO.refl _)
   | (with_reducible exact LeO.none _)
   | (with_reducible refine LeO.ite ?_ ?_)
   | (with_reducible refine LeO.bind ?_ (fun _ => ?_))
   | exact ih0 _ _ _ _ _ _ _
   | exact ih1 _ _ _ _ _ _ _
   | exact mapmakerref14_SameTags.mono _ _ _
   | exact LeO.none _
   | refine LeO.ite ?_ ?_
   | refine LeO.bind ?_ (fun _ => ?_)
theorem mapmakerref14_SameRel.mono : ∀ a0 a1 a2 a3 a4 a5 k, LeO (mapmakerref14_SameRel.f k a0 a1 a2 a3 a4 a5) (mapmakerref14_SameRel.f (k + 1) a0 a1 a2 a3 a4 a5) := by
 intro a0 a1 a2 a3 a4 a5 k; obtain ⟨ih0, ih1⟩ := mapmakerref14_SameRel.mono_l k; unfold mapmakerref14_SameRel.f
 repeat' first
   | (with_reducible exact ih0 _ _ _ _ _ _ _)
   | (with_reducible exact ih1 _ _ _ _ _ _ _)
   | (with_reducible exact mapmakerref14_SameTags.mono _ _ _)
   | (with_reducible exact LeO.refl _)
   | (with_reducible exact LeO.none _)
   | (with_reducible refine LeO.ite ?_ ?_)
   | (with_reducible refine LeO.bind ?_ (fun _ => ?_))
   | exact ih0 _ _ _ _ _ _ _
   | exact ih1 _ _ _ _ _ _ _
   | exact mapmakerref14_SameTags.mono _ _ _
   | exact LeO.none _
   | refine LeO.ite ?_ ?_
   | refine LeO.bind ?_ (fun _ => ?_)
set_option maxHeartbeats 8000000 in
set_option maxRecDepth 100000 in
theorem mapmakerref14_SameRel.calls (k : Nat) (a0_0 : Int) (A0_1 : Option Addr) (c0_1 : Nat) (l0_1 : List (S112)) (A0_2 : Option Addr) (c0_2 : Nat) (l0_2 : List (S129)) (a1_0 : Int) (A1_1 : Option Addr) (c1_1 : Nat) (l1_1 : List (S112)) (A1_2 : Option Addr) (c1_2 : Nat) (l1_2 : List (S129)) (r : Bool) (w : World) (hr0_1 : Kd.C k112 w A0_1 l0_1.length l0_1) (hc0_1 : l0_1.length ≤ c0_1) (hr0_2 : Kd.C k129 w A0_2 l0_2.length l0_2) (hc0_2 : l0_2.length ≤ c0_2) (hr1_1 : Kd.C k112 w A1_1 l1_1.length l1_1) (hc1_1 : l1_1.length ≤ c1_1) (hr1_2 : Kd.C k129 w A1_2 l1_2.length l1_2) (hc1_2 : l1_2.length ≤ c1_2) (h : mapmakerref14_SameRel.f k a0_0 l0_1 l0_2 a1_0 l1_1 l1_2 = some r) :
  Calls Tryz.prog 38 #[.agg #[.int .i64 a0_0, .slice A0_1 l0_1.length c0_1, .slice A0_2 l0_2.length c0_2], .agg #[.int .i64 a1_0, .slice A1_1 l1_1.length c1_1, .slice A1_2 l1_2.length c1_2]] w fun e w' => e = .returned (.bool r) ∧ Below w.heap.size w w' := by
 have hu43 := Tryz.underlying43; have hu112 := Tryz.underlying112; have HR0_1 := aM hr0_1; have HC0_1 := aM hc0_1; clear hr0_1 hc0_1; have HR0_2 := aM hr0_2; have HC0_2 := aM hc0_2; clear hr0_2 hc0_2; have HR1_1 := aM hr1_1; have HC1_1 := aM hc1_1; clear hr1_1 hc1_1; have HR1_2 := aM hr1_2; have HC1_2 := aM hc1_2; clear hr1_2 hc1_2; have HB := aM (Below.refl w.heap.size w); have H : (if a0_0 = a1_0 then (if (l0_1.length : Int) = (l1_1.length : Int) then ((mapmakerref14_SameTags.f k l0_2 l1_2).bind fun t148 => (mapmakerref14_SameRel.j0 k (!t148) a0_0 l0_1 l0_2 a1_0 l1_1 l1_2)) else (mapmakerref14_SameRel.j0 k true a0_0 l0_1 l0_2 a1_0 l1_1 l1_2)) else (mapmakerref14_SameRel.j0 k true a0_0 l0_1 l0_2 a1_0 l1_1 l1_2)) = some r := h; clear h; have HC3 := aM H; clear H; go_enter Tryz.func38, Tryz.ntmps38
 go_upto_region 1 with (first | ((with_reducible refine gate_dst (N := 2) rfl ?_); (try (refine gate_guard (by rfl) ?_; dsimp only)); refine bx (N := 2) (cs := #[.int .i64 a0_0, .slice A0_1 l0_1.length c0_1, .slice A0_2 l0_2.length c0_2]) (t := 43) ?_; intro gb146 hg w4 hbox hb; have BK146 := aM (hbox); have GE146 := aM (gw (w := w) hg); replace HB := aM (bS (bl) hb); clear hb hbox hg) | ((with_reducible refine gate_dst (N := 3) rfl ?_); (try (refine gate_guard (by rfl) ?_; dsimp only)); refine bx (N := 3) (cs := #[.int .i64 a1_0, .slice A1_1 l1_1.length c1_1, .slice A1_2 l1_2.length c1_2]) (t := 43) ?_; intro gb147 hg w5 hbox hb; have BK147 := aM (hbox); have GE147 := aM (gw (w := w) hg); obtain ⟨NB146_147, NB147_146⟩ := n2 BK146 hg; replace BK146 := aM (kB (kl BK146) hb); replace HB := aM (bS (bl) hb); clear hb hbox hg))
 repeat (go_quiet (first | ((with_reducible refine gate_dst (N := 2) rfl ?_); (try (refine gate_guard (by rfl) ?_; dsimp only)); refine bx (N := 2) (cs := #[.int .i64 a0_0, .slice A0_1 l0_1.length c0_1, .slice A0_2 l0_2.length c0_2]) (t := 43) ?_; intro gb146 hg w4 hbox hb; have BK146 := aM (hbox); have GE146 := aM (gw (w := w) hg); replace HB := aM (bS (bl) hb); clear hb hbox hg) | ((with_reducible refine gate_dst (N := 3) rfl ?_); (try (refine gate_guard (by rfl) ?_; dsimp only)); refine bx (N := 3) (cs := #[.int .i64 a1_0, .slice A1_1 l1_1.length c1_1, .slice A1_2 l1_2.length c1_2]) (t := 43) ?_; intro gb147 hg w5 hbox hb; have BK147 := aM (hbox); have GE147 := aM (gw (w := w) hg); obtain ⟨NB146_147, NB147_146⟩ := n2 BK146 hg; replace BK146 := aM (kB (kl BK146) hb); replace HB := aM (bS (bl) hb); clear hb hbox hg)); go_upto_region 1 with (first | ((with_reducible refine gate_dst (N := 2) rfl ?_); (try (refine gate_guard (by rfl) ?_; dsimp only)); refine bx (N := 2) (cs := #[.int .i64 a0_0, .slice A0_1 l0_1.length c0_1, .slice A0_2 l0_2.length c0_2]) (t := 43) ?_; intro gb146 hg w4 hbox hb; have BK146 := aM (hbox); have GE146 := aM (gw (w := w) hg); replace HB := aM (bS (bl) hb); clear hb hbox hg) | ((with_reducible refine gate_dst (N := 3) rfl ?_); (try (refine gate_guard (by rfl) ?_; dsimp only)); refine bx (N := 3) (cs := #[.int .i64 a1_0, .slice A1_1 l1_1.length c1_1, .slice A1_2 l1_2.length c1_2]) (t := 43) ?_; intro gb147 hg w5 hbox hb; have BK147 := aM (hbox); have GE147 := aM (gw (w := w) hg); obtain ⟨NB146_147, NB147_146⟩ := n2 BK146 hg; replace BK146 := aM (kB (kl BK146) hb); replace HB := aM (bS (bl) hb); clear hb hbox hg)))
 (try simp only [Act.put, sA, sB, sC])
 go_cut [27] (fun v27 wc => ∃ (kq : Nat) (x27_2 : Bool), v27 = .bool x27_2 ∧ Aside0 (mapmakerref14_SameRel.j0 kq x27_2 a0_0 l0_1 l0_2 a1_0 l1_1 l1_2 = some r) ∧ Aside0 (kq ≤ k) ∧ Aside0 (wc.heap[gb146]? = some (.cells #[.int .i64 a0_0, (.slice A0_1 l0_1.length c0_1), (.slice A0_2 l0_2.length c0_2)] 43 (0, 0))) ∧ Aside0 (wc.heap[gb147]? = some (.cells #[.int .i64 a1_0, (.slice A1_1 l1_1.length c1_1), (.slice A1_2 l1_2.length c1_2)] 43 (0, 0))) ∧ Aside0 (Below w.heap.size w wc))
 case first =>
  have H := HC3.out; clear HC3
  by_cases c6 : a0_0 = a1_0
  ·rw [if_pos c6] at H; have c6b0 : (a0_0 == a1_0) = true := beq_iff_eq.mpr c6; have c6b1 : (a0_0 != a1_0) = false := bne_eq_false_iff_eq.mpr c6; clear c6
   (first | rw [c6b0] | (simp only [i64_w, i32_w]; rw [c6b0]) | skip)
   by_cases c7 : (l0_1.length : Int) = (l1_1.length : Int)
   ·rw [if_pos c7] at H; have c7b0 : ((l0_1.length : Int) == (l1_1.length : Int)) = true := beq_iff_eq.mpr c7; have c7b1 : ((l0_1.length : Int) != (l1_1.length : Int)) = false := bne_eq_false_iff_eq.mpr c7; have c7b2 : (l0_1.length == l1_1.length) = true := by first | simpa using c7 | (simp at c7 ⊢; omega)
    clear c7; replace H := Option.bind_eq_some_iff.mp H; obtain ⟨t148, A80, H⟩ := H; (try dsimp only at H); have A8 := aM A80; clear A80; have H' := aM H; clear H; have hn9 := nn NB146_147; have hz10 := bc3 BK146; have hz11 := bc3 BK147
    go_wp2_with (first | (go_at_call 62; (with_reducible refine (mapmakerref14_SameTags.calls k _ _ l0_2 _ _ l1_2 t148 _ ?side1 ?side2 ?side3 ?side4 A8.out).mono ?_); (case side1 => exact cl HR0_2); (case side2 => exact HC0_2.out); (case side3 => exact cl HR1_2); (case side4 => exact HC1_2.out); rintro e w' ⟨rfl, ⟨nd, rfl⟩⟩; (try first | exact ⟨rfl, _, World.drewN_drewN _ _ _⟩ | exact ⟨rfl, _, Eq.trans (World.drewN_drewN _ _ _) (congrArg (World.drewN _) (Nat.add_assoc _ _ _))⟩)))
    repeat (go_quiet (first | (go_at_call 62; (with_reducible refine (mapmakerref14_SameTags.calls k _ _ l0_2 _ _ l1_2 t148 _ ?side1 ?side2 ?side3 ?side4 A8.out).mono ?_); (case side1 => exact cl HR0_2); (case side2 => exact HC0_2.out); (case side3 => exact cl HR1_2); (case side4 => exact HC1_2.out); rintro e w' ⟨rfl, ⟨nd, rfl⟩⟩; (try first | exact ⟨rfl, _, World.drewN_drewN _ _ _⟩ | exact ⟨rfl, _, Eq.trans (World.drewN_drewN _ _ _) (congrArg (World.drewN _) (Nat.add_assoc _ _ _))⟩))); try go_wp2_with (first | (go_at_call 62; (with_reducible refine (mapmakerref14_SameTags.calls k _ _ l0_2 _ _ l1_2 t148 _ ?side1 ?side2 ?side3 ?side4 A8.out).mono ?_); (case side1 => exact cl HR0_2); (case side2 => exact HC0_2.out); (case side3 => exact cl HR1_2); (case side4 => exact HC1_2.out); rintro e w' ⟨rfl, ⟨nd, rfl⟩⟩; (try first | exact ⟨rfl, _, World.drewN_drewN _ _ _⟩ | exact ⟨rfl, _, Eq.trans (World.drewN_drewN _ _ _) (congrArg (World.drewN _) (Nat.add_assoc _ _ _))⟩))))
    go_meet
    case rel => exact ⟨_, (!t148), (by first | rfl | (simp; done) | (simp [*]; done)), H', ⟨by first | omega | exact Nat.le_refl _⟩, ⟨kl BK146⟩, ⟨kl BK147⟩, ⟨bl⟩⟩
   ·rw [if_neg c7] at H; have c7b0 : ((l0_1.length : Int) == (l1_1.length : Int)) = false := beq_eq_false_iff_ne.mpr c7; have c7b1 : ((l0_1.length : Int) != (l1_1.length : Int)) = true := bne_iff_ne.mpr c7; have c7b2 : (l0_1.length == l1_1.length) = false := by first | simpa using c7 | (simp at c7 ⊢; omega)
    have H' := aM H; clear H; have hn12 := nn NB146_147; have hz13 := bc3 BK146; have hz14 := bc3 BK147
    go_wp2
    repeat (go_quiet (fail); try go_wp2)
    go_meet
    case rel => exact ⟨_, (true), (by first | rfl | (simp; done) | (simp [*]; done)), H', ⟨by first | omega | exact Nat.le_refl _⟩, ⟨kl BK146⟩, ⟨kl BK147⟩, ⟨bl⟩⟩
  ·rw [if_neg c6] at H; have c6b0 : (a0_0 == a1_0) = false := beq_eq_false_iff_ne.mpr c6; have c6b1 : (a0_0 != a1_0) = true := bne_iff_ne.mpr c6
   (first | rw [c6b0] | (simp only [i64_w, i32_w]; rw [c6b0]) | skip)
   have H' := aM H; clear H; have hn15 := nn NB146_147; have hz16 := bc3 BK146; have hz17 := bc3 BK147
   go_wp2
   repeat (go_quiet (fail); try go_wp2)
   go_meet
   case rel => exact ⟨_, (true), (by first | rfl | (simp; done) | (simp [*]; done)), H', ⟨by first | omega | exact Nat.le_refl _⟩, ⟨kl BK146⟩, ⟨kl BK147⟩, ⟨bl⟩⟩
 case rest =>
  clear HC3; (try clear c6); (try clear c6b0); (try clear c6b1); (try clear c7); (try clear c7b0); (try clear c7b1); (try clear c7b2); (try clear hz10); (try clear hz11); (try clear hz13); (try clear hz14); (try clear hz16); (try clear hz17); obtain ⟨kq, x27_2, rfl, HA, HJ2, BK146, BK147, HB⟩ := hcut
  cases kq with
  | zero => exact absurd HA.out (by simp [mapmakerref14_SameRel.j0])
  | succ kj2 =>
   have H := HA.out; clear HA; simp only [mapmakerref14_SameRel.j0] at H
   by_cases c18 : x27_2 = true
   ·subst c18; have H1 : (some false) = some r := by rw [if_pos rfl] at H; exact H
    clear H; have H := H1; clear H1; obtain rfl := Option.some.inj H
    go_wp2
    repeat (go_quiet (fail); try go_wp2)
    go_ret; exact ⟨by first | rfl | (simp [errW_none, errW_some] <;> rfl) | (simp [*, errW_none, errW_some] <;> rfl), bl⟩
   ·replace c18 := Bool.eq_false_iff.mpr c18; subst c18; have H1 : (mapmakerref14_SameRel.l0 kj2 0 a0_0 l0_1 l0_2 a1_0 l1_1 l1_2) = some r := by rw [if_neg (show ¬ (false = true) by decide)] at H; exact H
    clear H; have H := H1; clear H1; have H' := aM H; clear H
    go_wp2
    repeat (go_quiet (fail); try go_wp2)
    go_loopg [5] kj2 (fun kq v5 w' => ∃ (x5_2 : Int), v5 = .int .i64 x5_2 ∧ Aside0 (mapmakerref14_SameRel.l0 kq x5_2 a0_0 l0_1 l0_2 a1_0 l1_1 l1_2 = some r) ∧ Aside0 (kq ≤ kj2) ∧ Aside0 (w'.heap[gb146]? = some (.cells #[.int .i64 a0_0, (.slice A0_1 l0_1.length c0_1), (.slice A0_2 l0_2.length c0_2)] 43 (0, 0))) ∧ Aside0 (w'.heap[gb147]? = some (.cells #[.int .i64 a1_0, (.slice A1_1 l1_1.length c1_1), (.slice A1_2 l1_2.length c1_2)] 43 (0, 0))) ∧ Aside0 (Below w.heap.size w w'))
    case atStart => exact ⟨(0), (by first | rfl | (simp; done) | (simp [*]; done)), H', ⟨Nat.le_refl _⟩, ⟨kl BK146⟩, ⟨kl BK147⟩, ⟨bl⟩⟩
    case round =>
     clear H'; (try clear c6); (try clear c6b0); (try clear c6b1); (try clear c7); (try clear c7b0); (try clear c7b1); (try clear c7b2); (try clear c18); (try clear hz10); (try clear hz11); (try clear hz13); (try clear hz14); (try clear hz16); (try clear hz17); obtain ⟨x5_2, rfl, HA, HK2, BK146, BK147, HB⟩ := hrel
     cases gk with
     | zero => exact absurd HA.out (by simp [mapmakerref14_SameRel.l0])
     | succ k2 =>
      have H := HA.out; clear HA; simp only [mapmakerref14_SameRel.l0] at H
      by_cases c19 : x5_2 < (l0_1.length : Int)
      ·rw [if_pos c19] at H; have c19b0 : decide (x5_2 < (l0_1.length : Int)) = true := decide_eq_true c19; clear c19
       by_cases c20 : 0 ≤ x5_2
       ·rw [if_pos c20] at H; have c20b0 : decide (0 ≤ x5_2) = true := decide_eq_true c20; clear c20
        by_cases c21 : x5_2 < (l1_1.length : Int)
        ·rw [if_pos c21] at H; have c21b0 : decide (x5_2 < (l1_1.length : Int)) = true := decide_eq_true c21; clear c21
         by_cases c22 : ((!(((rd_T112 l0_1 x5_2).f0.f0) == ((rd_T112 l1_1 x5_2).f0.f0)) || (!(((rd_T112 l0_1 x5_2).f0.f1) == ((rd_T112 l1_1 x5_2).f0.f1)))) || (!((((rd_T112 l0_1 x5_2).f1).toList) == (((rd_T112 l1_1 x5_2).f1).toList)))) = true
         ·rw [if_pos c22] at H; have c22b0 : ((!(((rd_T112 l0_1 x5_2).f0.f0) == ((rd_T112 l1_1 x5_2).f0.f0)) || (!(((rd_T112 l0_1 x5_2).f0.f1) == ((rd_T112 l1_1 x5_2).f0.f1)))) || (!((((rd_T112 l0_1 x5_2).f1).toList) == (((rd_T112 l1_1 x5_2).f1).toList)))) = true := c22; clear c22; obtain rfl := Option.some.inj H; have hn23 := nn NB146_147; have hz24 := bc3 BK146; have p149 : 0 ≤ (x5_2 : Int) := oT; have q149 : x5_2 < (l0_1.length : Int) := oT; obtain ⟨ad149, e149, hx149_0, hx149_1, hx149_2⟩ := at_T112 HR0_1.out x5_2 p149 q149; cases e149
          replace hx149_0 := hs HB.out hx149_0; replace hx149_1 := hs HB.out hx149_1; replace hx149_2 := hs HB.out hx149_2; replace p149 := eq_true p149; replace q149 := eq_true q149; have hz25 := bc3 BK147; have p150 : 0 ≤ (x5_2 : Int) := oT; have q150 : x5_2 < (l1_1.length : Int) := oT; obtain ⟨ad150, e150, hx150_0, hx150_1, hx150_2⟩ := at_T112 HR1_1.out x5_2 p150 q150; cases e150
          replace hx150_0 := hs HB.out hx150_0; replace hx150_1 := hs HB.out hx150_1; replace hx150_2 := hs HB.out hx150_2; replace p150 := eq_true p150; replace q150 := eq_true q150
          go_wp2
          repeat (go_quiet (fail); try go_wp2)
          go_ret; exact ⟨by first | rfl | (simp [errW_none, errW_some] <;> rfl) | (simp [*, errW_none, errW_some] <;> rfl), bl⟩
         ·rw [if_neg c22] at H; have c22b0 : ((!(((rd_T112 l0_1 x5_2).f0.f0) == ((rd_T112 l1_1 x5_2).f0.f0)) || (!(((rd_T112 l0_1 x5_2).f0.f1) == ((rd_T112 l1_1 x5_2).f0.f1)))) || (!((((rd_T112 l0_1 x5_2).f1).toList) == (((rd_T112 l1_1 x5_2).f1).toList)))) = false := by simpa using c22
          clear c22; have H' := aM H; clear H; have hn26 := nn NB146_147; have hz27 := bc3 BK146; have p149 : 0 ≤ (x5_2 : Int) := oT; have q149 : x5_2 < (l0_1.length : Int) := oT; obtain ⟨ad149, e149, hx149_0, hx149_1, hx149_2⟩ := at_T112 HR0_1.out x5_2 p149 q149; cases e149
          replace hx149_0 := hs HB.out hx149_0; replace hx149_1 := hs HB.out hx149_1; replace hx149_2 := hs HB.out hx149_2; replace p149 := eq_true p149; replace q149 := eq_true q149; have hz28 := bc3 BK147; have p150 : 0 ≤ (x5_2 : Int) := oT; have q150 : x5_2 < (l1_1.length : Int) := oT; obtain ⟨ad150, e150, hx150_0, hx150_1, hx150_2⟩ := at_T112 HR1_1.out x5_2 p150 q150; cases e150
          replace hx150_0 := hs HB.out hx150_0; replace hx150_1 := hs HB.out hx150_1; replace hx150_2 := hs HB.out hx150_2; replace p150 := eq_true p150; replace q150 := eq_true q150
          go_wp2
          repeat (go_quiet (fail); try go_wp2)
          go_roundg k2
          case measure => have := HJ2.out; have := HK2.out; omega
          case rel => exact ⟨(wrap64 (x5_2 + 1)), (by first | rfl | (simp; done) | (simp [*]; done)), H', ⟨by have := HJ2.out; have := HK2.out; omega⟩, ⟨kl BK146⟩, ⟨kl BK147⟩, ⟨bl⟩⟩
        ·rw [if_neg c21] at H; exact absurd H (by simp)
       ·rw [if_neg c20] at H; exact absurd H (by simp)
      ·rw [if_neg c19] at H; have c19b0 : decide (x5_2 < (l0_1.length : Int)) = false := decide_eq_false c19; clear c19; obtain rfl := Option.some.inj H; have hn29 := nn NB146_147; have hz30 := bc3 BK146
       go_wp2
       repeat (go_quiet (fail); try go_wp2)
       go_ret; exact ⟨by first | rfl | (simp [errW_none, errW_some] <;> rfl) | (simp [*, errW_none, errW_some] <;> rfl), bl⟩
end Go.Proofs.YtijoaohckgbneaaGreat.PAll
