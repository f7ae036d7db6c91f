-- out of a driver of this session's prover over the kit's print: Lean checks it
import Derived.Test.YtgenbepicnbecaaPAllx0
import Derived.Test.YtgenbepicnbecaaPAllx1
import Derived.Test.YtgenbepicnbecaaPAllx5
import Derived.Test.YtgenbepicnbecaaPAllx9
import Derived.Test.YtgenbepicnbecaaPAllx10
import Derived.Test.YtgenbepicnbecaaPAllx12
import Derived.Test.YtgenbepicnbecaaPAllx15
import Derived.Test.YtgenbepicnbecaaPAllx22
import Derived.Test.YtgenbepicnbecaaPAllx31
namespace Go.Proofs.Ytgenbepicnbecaa.PAll
open Go.Proofs.YtgenbepicnbecaaG Go.Shelf Go.Lib
open Go.RowKit Go.Proofs.YtgenbepicnbecaaW.PrintWords Go.Proofs.YtgenbepicnbecaaW.PrintLast Go.Proofs.YtgenbepicnbecaaW.PrintMore
attribute [local go_sem] max2_int min2_int max_two min_two max_three min_three max_four min_four   -- for this text's walks alone
set_option linter.unusedVariables false
set_option linter.unusedSimpArgs false
attribute [local go_sem high] eqA34
def mapmakerlaw14_DataRemoves.j0 : Nat → Int → Bool → List (S39) → List (S45) → List (S51) → Option (Bool)
 | 0, _, _, _, _, _ => none
 | k + 1, x1, x15, x556000, x556001, x556002 => if x15 = true then ((mapmakerlaw14_lives.f k).bind fun t558 => (some t558)) else ((data_Refs.f k x556000 x556001 x556002).bind fun t559 => (if (t559.length : Int) = (wrap64 ((wrap64 ((x556000.length : Int) + (x556001.length : Int))) + (x556002.length : Int))) then (if (t559.length : Int) = 0 then ((mapmakerlaw14_lives.f k).bind fun t562 => (some t562)) else (if 0 ≤ (Int.tmod (wrap64 (x1)) (t559.length : Int)) then (if (Int.tmod (wrap64 (x1)) (t559.length : Int)) < (t559.length : Int) then ((mapmakerlaw14_without.f k x556000 x556001 x556002 ((rd_T34 t559 (Int.tmod (wrap64 (x1)) (t559.length : Int))).f0) ((rd_T34 t559 (Int.tmod (wrap64 (x1)) (t559.length : Int))).f1)).bind fun bt565 => ((data_Check.f k bt565.1 bt565.2.1 bt565.2.2).bind fun t574 => ((data_Users.f k x556000 x556001 x556002 ((rd_T34 t559 (Int.tmod (wrap64 (x1)) (t559.length : Int))).f0) ((rd_T34 t559 (Int.tmod (wrap64 (x1)) (t559.length : Int))).f1)).bind fun t575 => (if (t575.length : Int) > 0 then (if t574 = 9 then ((mapmakerlaw14_lives.f k).bind fun t578 => (some t578)) else (some false)) else (if t574 = 0 then ((mapmakerlaw14_lives.f k).bind fun t579 => (some t579)) else (some false)))))) else (none)) else (none))) else (some false)))
def mapmakerlaw14_DataRemoves.f (k : Nat) (l0_0 : List (S39)) (l0_1 : List (S45)) (l0_2 : List (S51)) (a1 : Int) : Option (Bool) := (mapmakerref14_Few.f k l0_0 l0_1 l0_2 600).bind fun t556 => (if t556 = true then ((data_Check.f k l0_0 l0_1 l0_2).bind fun t557 => (mapmakerlaw14_DataRemoves.j0 k a1 (t557 != 0) l0_0 l0_1 l0_2)) else (mapmakerlaw14_DataRemoves.j0 k a1 true l0_0 l0_1 l0_2))
theorem mapmakerlaw14_DataRemoves.mono_l : ∀ k, (∀ y0 y1 y2 y3 y4, LeO (mapmakerlaw14_DataRemoves.j0 k y0 y1 y2 y3 y4) (mapmakerlaw14_DataRemoves.j0 (k + 1) y0 y1 y2 y3 y4))
 | 0 => fun _ _ _ _ _ r h => by simp [mapmakerlaw14_DataRemoves.j0] at h
 | k + 1 => by
  have ih0 := mapmakerlaw14_DataRemoves.mono_l k
  ·intro y0 y1 y2 y3 y4
   unfold mapmakerlaw14_DataRemoves.j0
   repeat' first
   | (with_reducible exact ih0 _ _ _ _ _)
   | (with_reducible exact data_Check.mono _ _ _ _)
   | (with_reducible exact data_Refs.mono _ _ _ _)
   | (with_reducible exact data_Users.mono _ _ _ _ _ _)
   | (with_reducible exact mapmakerlaw14_lives.mono _)
   | (with_reducible exact mapmakerlaw14_without.mono _ _ _ _ _ _)
   | (with_reducible exact mapmakerref14_Few.mono _ _ _ _ _)
   | (with_reducible exact LeO.refl _)
   | (with_reducible exact LeO.none _)
   | (with_reducible refine LeO.ite ?_ ?_)
   | (with_reducible refine LeO.bind ?_ (fun _ => ?_))
   | exact ih0 _ _ _ _ _
   | exact data_Check.mono _ _ _ _
   | exact data_Refs.mono _ _ _ _
   | exact data_Users.mono _ _ _ _ _ _
   | exact mapmakerlaw14_lives.mono _
   | exact mapmakerlaw14_without.mono _ _ _ _ _ _
   | exact mapmakerref14_Few.mono _ _ _ _ _
   | exact LeO.none _
   | refine LeO.ite ?_ ?_
   | refine LeO.bind ?_ (fun _ => ?_)
theorem mapmakerlaw14_DataRemoves.mono : ∀ a0 a1 a2 a3 k, LeO (mapmakerlaw14_DataRemoves.f k a0 a1 a2 a3) (mapmakerlaw14_DataRemoves.f (k + 1) a0 a1 a2 a3) := by
 intro a0 a1 a2 a3 k
 have ih0 := mapmakerlaw14_DataRemoves.mono_l k
 unfold mapmakerlaw14_DataRemoves.f
 repeat' first
   | (with_reducible exact ih0 _ _ _ _ _)
   | (with_reducible exact data_Check.mono _ _ _ _)
   | (with_reducible exact data_Refs.mono _ _ _ _)
   | (with_reducible exact data_Users.mono _ _ _ _ _ _)
   | (with_reducible exact mapmakerlaw14_lives.mono _)
   | (with_reducible exact mapmakerlaw14_without.mono _ _ _ _ _ _)
   | (with_reducible exact mapmakerref14_Few.mono _ _ _ _ _)
   | (with_reducible exact LeO.refl _)
   | (with_reducible exact LeO.none _)
   | (with_reducible refine LeO.ite ?_ ?_)
   | (with_reducible refine LeO.bind ?_ (fun _ => ?_))
   | exact ih0 _ _ _ _ _
   | exact data_Check.mono _ _ _ _
   | exact data_Refs.mono _ _ _ _
   | exact data_Users.mono _ _ _ _ _ _
   | exact mapmakerlaw14_lives.mono _
   | exact mapmakerlaw14_without.mono _ _ _ _ _ _
   | exact mapmakerref14_Few.mono _ _ _ _ _
   | exact LeO.none _
   | refine LeO.ite ?_ ?_
   | refine LeO.bind ?_ (fun _ => ?_)
set_option maxHeartbeats 8000000 in
set_option maxRecDepth 100000 in
theorem mapmakerlaw14_DataRemoves.callsT (k : Nat) (A0_0 : Option Addr) (c0_0 : Nat) (l0_0 : List (S39)) (A0_1 : Option Addr) (c0_1 : Nat) (l0_1 : List (S45)) (A0_2 : Option Addr) (c0_2 : Nat) (l0_2 : List (S51)) (a1 : Int) (r : Bool) (w : World) (hr0_0 : Kd.C k39 w A0_0 l0_0.length l0_0) (hc0_0 : l0_0.length ≤ c0_0) (hr0_1 : Kd.C k45 w A0_1 l0_1.length l0_1) (hc0_1 : l0_1.length ≤ c0_1) (hr0_2 : Kd.C k51 w A0_2 l0_2.length l0_2) (hc0_2 : l0_2.length ≤ c0_2) (h : mapmakerlaw14_DataRemoves.f k l0_0 l0_1 l0_2 a1 = some r) (hT : r = true) :
  Calls Try.prog 6 #[.agg #[.slice A0_0 l0_0.length c0_0, .slice A0_1 l0_1.length c0_1, .slice A0_2 l0_2.length c0_2], .int .u8 a1] w fun e w' => e = .returned (.bool r) ∧ Below w.heap.size w w' := by
 have hu26 := Try.underlying26
 have hu34 := Try.underlying34
 have HR0_0 := aM hr0_0
 have HC0_0 := aM hc0_0
 clear hr0_0 hc0_0
 have HR0_1 := aM hr0_1
 have HC0_1 := aM hc0_1
 clear hr0_1 hc0_1
 have HR0_2 := aM hr0_2
 have HC0_2 := aM hc0_2
 clear hr0_2 hc0_2
 have HB := aM (Below.refl w.heap.size w)
 have H : ((mapmakerref14_Few.f k l0_0 l0_1 l0_2 600).bind fun t556 => (if t556 = true then ((data_Check.f k l0_0 l0_1 l0_2).bind fun t557 => (mapmakerlaw14_DataRemoves.j0 k a1 (t557 != 0) l0_0 l0_1 l0_2)) else (mapmakerlaw14_DataRemoves.j0 k a1 true l0_0 l0_1 l0_2))) = some r := h
 clear h
 have HC3 := aM H
 clear H
 go_enter Try.func6, Try.ntmps6
 go_upto_region 1 with (first | ((with_reducible refine gate_dst (N := 2) rfl ?_); refine bx (N := 2) (cs := #[.slice A0_0 l0_0.length c0_0, .slice A0_1 l0_1.length c0_1, .slice A0_2 l0_2.length c0_2]) (t := 26) ?_; intro gb555 hg w4 hbox hb; have BK555 := aM (hbox); have GW555 := aM (gw (w := w) hg); have GE555 := aM (gw (w := w) hg); replace HB := aM (bS (bl) hb); clear hb hbox hg))
 (try simp only [Act.put, sA, sB, sC])
 go_cut [15] (fun v15 wc => ∃ (kq : Nat) (x15_2 : Bool), v15 = .bool x15_2 ∧ Aside0 (mapmakerlaw14_DataRemoves.j0 kq a1 x15_2 l0_0 l0_1 l0_2 = some r) ∧ Aside0 (kq ≤ k) ∧ Aside0 (wc.heap[gb555]? = some (.cells #[(.slice A0_0 l0_0.length c0_0), (.slice A0_1 l0_1.length c0_1), (.slice A0_2 l0_2.length c0_2)] 26 (0, 0))) ∧ Aside0 (Below w.heap.size w wc))
 case first =>
  have H := HC3.out
  clear HC3
  replace H := Option.bind_eq_some_iff.mp H
  obtain ⟨t556, A50, H⟩ := H
  try dsimp only at H
  have A5 := aM A50
  clear A50
  by_cases c6 : t556 = true
  ·subst c6
   have H1 : ((data_Check.f k l0_0 l0_1 l0_2).bind fun t557 => (mapmakerlaw14_DataRemoves.j0 k a1 (t557 != 0) l0_0 l0_1 l0_2)) = some r := by rw [if_pos rfl] at H; exact H
   clear H
   have H := H1
   clear H1
   replace H := Option.bind_eq_some_iff.mp H
   obtain ⟨t557, A70, H⟩ := H
   try dsimp only at H
   have A7 := aM A70
   clear A70
   have H' := aM H
   clear H
   obtain ⟨hcz8_0, hcz8_1, hcz8_2, hfz8_0, hfz8_1, hfz8_2⟩ := bc3 BK555
   go_wp2_with (first | ((with_reducible refine gate_callee (f := 8) rfl ?_); refine gL (some 9) Try.func8 #[.agg #[.slice A0_0 l0_0.length c0_0, .slice A0_1 l0_1.length c0_1, .slice A0_2 l0_2.length c0_2], .int .i64 600] ?_; (with_reducible refine (mapmakerref14_Few.calls k _ _ l0_0 _ _ l0_1 _ _ l0_2 600 true _ ?side1 ?side2 ?side3 ?side4 ?side5 ?side6 A5.out).mono ?_); (case side1 => exact cl HR0_0); (case side2 => exact HC0_0.out); (case side3 => exact cl HR0_1); (case side4 => exact HC0_1.out); (case side5 => exact cl HR0_2); (case side6 => exact HC0_2.out); rintro e w9 ⟨rfl, hb⟩; refine ⟨_, rfl, ?_⟩; replace BK555 := aM (kB (kl BK555) hb); replace HB := aM (bS (bl) hb); (try clear hb); obtain ⟨hcz10_0, hcz10_1, hcz10_2, hfz10_0, hfz10_1, hfz10_2⟩ := bc3 BK555) | (go_at_call 10; (with_reducible refine (data_Check.calls k _ _ l0_0 _ _ l0_1 _ _ l0_2 t557 _ ?side1 ?side2 ?side3 ?side4 ?side5 ?side6 A7.out).mono ?_); (case side1 => exact cl HR0_0); (case side2 => exact HC0_0.out); (case side3 => exact cl HR0_1); (case side4 => exact HC0_1.out); (case side5 => exact cl HR0_2); (case side6 => exact HC0_2.out); rintro e w11 ⟨rfl, hb⟩; replace BK555 := aM (kB (kl BK555) hb); replace HB := aM (bS (bl) hb); (try clear hb)))
   go_meet
   case rel => exact ⟨_, ((t557 != 0)), (by first | rfl | (simp; done) | (simp [*]; done)), H', ⟨by first | omega | exact Nat.le_refl _⟩, ⟨by (with_reducible repeat (first | refine kN ?_ _ | refine kD ?_ | refine kA ?_ _)); exact BK555.out⟩, ⟨bl⟩⟩
  ·replace c6 := Bool.eq_false_iff.mpr c6
   subst c6
   have H1 : (mapmakerlaw14_DataRemoves.j0 k a1 true l0_0 l0_1 l0_2) = some r := by rw [if_neg (show ¬ (false = true) by decide)] at H; exact H
   clear H
   have H := H1
   clear H1
   have H' := aM H
   clear H
   obtain ⟨hcz12_0, hcz12_1, hcz12_2, hfz12_0, hfz12_1, hfz12_2⟩ := bc3 BK555
   go_wp2_with (first | ((with_reducible refine gate_callee (f := 8) rfl ?_); refine gL (some 9) Try.func8 #[.agg #[.slice A0_0 l0_0.length c0_0, .slice A0_1 l0_1.length c0_1, .slice A0_2 l0_2.length c0_2], .int .i64 600] ?_; (with_reducible refine (mapmakerref14_Few.calls k _ _ l0_0 _ _ l0_1 _ _ l0_2 600 false _ ?side1 ?side2 ?side3 ?side4 ?side5 ?side6 A5.out).mono ?_); (case side1 => exact cl HR0_0); (case side2 => exact HC0_0.out); (case side3 => exact cl HR0_1); (case side4 => exact HC0_1.out); (case side5 => exact cl HR0_2); (case side6 => exact HC0_2.out); rintro e w13 ⟨rfl, hb⟩; refine ⟨_, rfl, ?_⟩; replace BK555 := aM (kB (kl BK555) hb); replace HB := aM (bS (bl) hb); (try clear hb)))
   go_meet
   case rel => exact ⟨_, (true), (by first | rfl | (simp; done) | (simp [*]; done)), H', ⟨by first | omega | exact Nat.le_refl _⟩, ⟨by (with_reducible repeat (first | refine kN ?_ _ | refine kD ?_ | refine kA ?_ _)); exact BK555.out⟩, ⟨bl⟩⟩
 case rest =>
  clear HC3
  try clear p2
  try clear c6
  try clear c8
  try clear hcz10_0 hcz10_1 hcz10_2 hfz10_0 hfz10_1 hfz10_2
  try clear hcz12_0 hcz12_1 hcz12_2 hfz12_0 hfz12_1 hfz12_2
  try clear hcz8_0 hcz8_1 hcz8_2 hfz8_0 hfz8_1 hfz8_2
  obtain ⟨kq, x15_2, rfl, HA, HJ2, BK555, HB⟩ := hcut
  cases kq with
  | zero => exact absurd HA.out (by simp [mapmakerlaw14_DataRemoves.j0])
  | succ kj2 =>
   have H := HA.out
   clear HA
   simp only [mapmakerlaw14_DataRemoves.j0] at H
   by_cases c14 : x15_2 = true
   ·subst c14
    have H1 : ((mapmakerlaw14_lives.f kj2).bind fun t558 => (some t558)) = some r := by rw [if_pos rfl] at H; exact H
    clear H
    have H := H1
    clear H1
    replace H := Option.bind_eq_some_iff.mp H
    obtain ⟨t558, A150, H⟩ := H
    try dsimp only at H
    have A15 := aM A150
    clear A150
    obtain rfl := Option.some.inj H
    go_wp2_with (first | ((with_reducible refine gate_callee (f := 9) rfl ?_); refine gL (some 16) Try.func9 #[] ?_; (with_reducible refine (mapmakerlaw14_lives.calls kj2  t558 _ A15.out).mono ?_); rintro e w16 ⟨rfl, hb⟩; refine ⟨_, rfl, ?_⟩; replace HB := aM (bS (bl) hb); clear BK555; (try clear hb)))
    go_ret
    exact ⟨by first | rfl | (simp [errW_none, errW_some] <;> rfl) | (simp [*, errW_none, errW_some] <;> rfl), bl⟩
   ·replace c14 := Bool.eq_false_iff.mpr c14
    subst c14
    have H1 : ((data_Refs.f kj2 l0_0 l0_1 l0_2).bind fun t559 => (if (t559.length : Int) = (wrap64 ((wrap64 ((l0_0.length : Int) + (l0_1.length : Int))) + (l0_2.length : Int))) then (if (t559.length : Int) = 0 then ((mapmakerlaw14_lives.f kj2).bind fun t562 => (some t562)) else (if 0 ≤ (Int.tmod (wrap64 (a1)) (t559.length : Int)) then (if (Int.tmod (wrap64 (a1)) (t559.length : Int)) < (t559.length : Int) then ((mapmakerlaw14_without.f kj2 l0_0 l0_1 l0_2 ((rd_T34 t559 (Int.tmod (wrap64 (a1)) (t559.length : Int))).f0) ((rd_T34 t559 (Int.tmod (wrap64 (a1)) (t559.length : Int))).f1)).bind fun bt565 => ((data_Check.f kj2 bt565.1 bt565.2.1 bt565.2.2).bind fun t574 => ((data_Users.f kj2 l0_0 l0_1 l0_2 ((rd_T34 t559 (Int.tmod (wrap64 (a1)) (t559.length : Int))).f0) ((rd_T34 t559 (Int.tmod (wrap64 (a1)) (t559.length : Int))).f1)).bind fun t575 => (if (t575.length : Int) > 0 then (if t574 = 9 then ((mapmakerlaw14_lives.f kj2).bind fun t578 => (some t578)) else (some false)) else (if t574 = 0 then ((mapmakerlaw14_lives.f kj2).bind fun t579 => (some t579)) else (some false)))))) else (none)) else (none))) else (some false))) = some r := by rw [if_neg (show ¬ (false = true) by decide)] at H; exact H
    clear H
    have H := H1
    clear H1
    replace H := Option.bind_eq_some_iff.mp H
    obtain ⟨t559, A170, H⟩ := H
    try dsimp only at H
    have A17 := aM A170
    clear A170
    by_cases c18 : (t559.length : Int) = (wrap64 ((wrap64 ((l0_0.length : Int) + (l0_1.length : Int))) + (l0_2.length : Int)))
    ·rw [if_pos c18] at H
     have c18b0 : ((t559.length : Int) == (wrap64 ((wrap64 ((l0_0.length : Int) + (l0_1.length : Int))) + (l0_2.length : Int)))) = true := beq_iff_eq.mpr c18
     have c18b1 : ((t559.length : Int) != (wrap64 ((wrap64 ((l0_0.length : Int) + (l0_1.length : Int))) + (l0_2.length : Int)))) = false := bne_eq_false_iff_eq.mpr c18
     clear c18
     by_cases c19 : (t559.length : Int) = 0
     ·rw [if_pos c19] at H
      have c19b0 : ((t559.length : Int) == 0) = true := beq_iff_eq.mpr c19
      have c19b1 : ((t559.length : Int) != 0) = false := bne_eq_false_iff_eq.mpr c19
      clear c19
      replace H := Option.bind_eq_some_iff.mp H
      obtain ⟨t562, A200, H⟩ := H
      try dsimp only at H
      have A20 := aM A200
      clear A200
      obtain rfl := Option.some.inj H
      obtain ⟨hcz21_0, hcz21_1, hcz21_2, hfz21_0, hfz21_1, hfz21_2⟩ := bc3 BK555
      go_wp2_with (first | ((with_reducible refine gate_callee (f := 26) rfl ?_); refine gL (some 18) Try.func26 #[.agg #[.slice A0_0 l0_0.length c0_0, .slice A0_1 l0_1.length c0_1, .slice A0_2 l0_2.length c0_2]] ?_; (with_reducible refine (data_Refs.calls kj2 _ _ l0_0 _ _ l0_1 _ _ l0_2 t559 _ ?side1 ?side2 ?side3 ?side4 ?side5 ?side6 A17.out).mono ?_); (case side1 => exact cl HR0_0); (case side2 => exact HC0_0.out); (case side3 => exact cl HR0_1); (case side4 => exact HC0_1.out); (case side5 => exact cl HR0_2); (case side6 => exact HC0_2.out); rintro e w22 ⟨v560, rfl, ho0, hb⟩; refine ⟨_, rfl, ?_⟩; have HO561 := aM (Kd.R_lower ho0 (below_size (bl))); replace BK555 := aM (kB (kl BK555) hb); replace HB := aM (bS (bl) hb); (try clear hb); (try clear ho0); obtain ⟨Ao23, co23, eo23⟩ := Kd.R_slice HO561.out; subst eo23; obtain ⟨hcz24_0, hcz24_1, hcz24_2, hfz24_0, hfz24_1, hfz24_2⟩ := bc3 BK555) | ((with_reducible refine gate_callee (f := 9) rfl ?_); refine gL (some 36) Try.func9 #[] ?_; (with_reducible refine (mapmakerlaw14_lives.calls kj2  t562 _ A20.out).mono ?_); rintro e w25 ⟨rfl, hb⟩; refine ⟨_, rfl, ?_⟩; replace HO561 := aM (rB (rl HO561) hb); replace BK555 := aM (kB (kl BK555) hb); replace HB := aM (bS (bl) hb); (try clear hb)))
      go_ret
      exact ⟨by first | rfl | (simp [errW_none, errW_some] <;> rfl) | (simp [*, errW_none, errW_some] <;> rfl), bl⟩
     ·rw [if_neg c19] at H
      have c19b0 : ((t559.length : Int) == 0) = false := beq_eq_false_iff_ne.mpr c19
      have c19b1 : ((t559.length : Int) != 0) = true := bne_iff_ne.mpr c19
      have c19b2 : ¬ (t559 = []) := fun h_ => c19 (by rw [h_]; rfl)
      obtain ⟨ji26, hji26⟩ : ∃ j_ : Int, (Int.tmod (wrap64 (a1)) (t559.length : Int)) = j_ := ⟨_, rfl⟩
      replace H : (if 0 ≤ (ji26) then (if (ji26) < (t559.length : Int) then ((mapmakerlaw14_without.f kj2 l0_0 l0_1 l0_2 ((rd_T34 t559 (ji26)).f0) ((rd_T34 t559 (ji26)).f1)).bind fun bt565 => ((data_Check.f kj2 bt565.1 bt565.2.1 bt565.2.2).bind fun t574 => ((data_Users.f kj2 l0_0 l0_1 l0_2 ((rd_T34 t559 (ji26)).f0) ((rd_T34 t559 (ji26)).f1)).bind fun t575 => (if (t575.length : Int) > 0 then (if t574 = 9 then ((mapmakerlaw14_lives.f kj2).bind fun t578 => (some t578)) else (some false)) else (if t574 = 0 then ((mapmakerlaw14_lives.f kj2).bind fun t579 => (some t579)) else (some false)))))) else (none)) else (none)) = some r := by first | (rw [hji26] at H; exact H) | (simp only [hji26] at H ⊢; exact H)
      (try rw [hji26] at A17)
      by_cases c27 : 0 ≤ (ji26)
      ·rw [if_pos c27] at H
       have c27b0 : decide (0 ≤ (ji26)) = true := decide_eq_true c27
       clear c27
       by_cases c28 : (ji26) < (t559.length : Int)
       ·rw [if_pos c28] at H
        have c28b0 : decide ((ji26) < (t559.length : Int)) = true := decide_eq_true c28
        clear c28
        replace H := Option.bind_eq_some_iff.mp H
        obtain ⟨⟨t565, t568, t571⟩, A290, H⟩ := H
        replace H : ((data_Check.f kj2 t565 t568 t571).bind fun t574 => ((data_Users.f kj2 l0_0 l0_1 l0_2 ((rd_T34 t559 (ji26)).f0) ((rd_T34 t559 (ji26)).f1)).bind fun t575 => (if (t575.length : Int) > 0 then (if t574 = 9 then ((mapmakerlaw14_lives.f kj2).bind fun t578 => (some t578)) else (some false)) else (if t574 = 0 then ((mapmakerlaw14_lives.f kj2).bind fun t579 => (some t579)) else (some false))))) = some r := H
        have A29 := aM A290
        clear A290
        replace H := Option.bind_eq_some_iff.mp H
        obtain ⟨t574, A300, H⟩ := H
        try dsimp only at H
        have A30 := aM A300
        clear A300
        replace H := Option.bind_eq_some_iff.mp H
        obtain ⟨t575, A310, H⟩ := H
        try dsimp only at H
        have A31 := aM A310
        clear A310
        by_cases c32 : (t575.length : Int) > 0
        ·rw [if_pos c32] at H
         have c32b0 : decide (0 < (t575.length : Int)) = true := decide_eq_true c32
         have c32b1 : decide (0 < t575.length) = true := decide_eq_true (by omega)
         clear c32
         by_cases c33 : t574 = 9
         ·rw [if_pos c33] at H
          have c33b0 : (t574 == 9) = true := beq_iff_eq.mpr c33
          have c33b1 : (t574 != 9) = false := bne_eq_false_iff_eq.mpr c33
          clear c33
          replace H := Option.bind_eq_some_iff.mp H
          obtain ⟨t578, A340, H⟩ := H
          try dsimp only at H
          have A34 := aM A340
          clear A340
          obtain rfl := Option.some.inj H
          obtain ⟨hcz35_0, hcz35_1, hcz35_2, hfz35_0, hfz35_1, hfz35_2⟩ := bc3 BK555
          go_wp2_with (first | ((with_reducible refine gate_callee (f := 26) rfl ?_); refine gL (some 18) Try.func26 #[.agg #[.slice A0_0 l0_0.length c0_0, .slice A0_1 l0_1.length c0_1, .slice A0_2 l0_2.length c0_2]] ?_; (with_reducible refine (data_Refs.calls kj2 _ _ l0_0 _ _ l0_1 _ _ l0_2 t559 _ ?side1 ?side2 ?side3 ?side4 ?side5 ?side6 A17.out).mono ?_); (case side1 => exact cl HR0_0); (case side2 => exact HC0_0.out); (case side3 => exact cl HR0_1); (case side4 => exact HC0_1.out); (case side5 => exact cl HR0_2); (case side6 => exact HC0_2.out); rintro e w36 ⟨v560, rfl, ho0, hb⟩; refine ⟨_, rfl, ?_⟩; have HO561 := aM (Kd.R_lower ho0 (below_size (bl))); replace BK555 := aM (kB (kl BK555) hb); replace HB := aM (bS (bl) hb); (try clear hb); (try clear ho0); obtain ⟨Ao37, co37, eo37⟩ := Kd.R_slice HO561.out; subst eo37; obtain ⟨hcz38_0, hcz38_1, hcz38_2, hfz38_0, hfz38_1, hfz38_2⟩ := bc3 BK555; have p563 : 0 ≤ ((ji26) : Int) := of_decide_eq_true (by first | (with_reducible assumption) | assumption); have q563 : (ji26) < (t559.length : Int) := of_decide_eq_true (by first | (with_reducible assumption) | assumption); obtain ⟨ad563, e563, hx563_0, hx563_1⟩ := at_T34 (rR HO561.out).2.2 (ji26) p563 q563; cases e563; replace p563 := eq_true p563; replace q563 := eq_true q563) | ((with_reducible refine gate_dst (N := 6) rfl ?_); refine bx (N := 6) (cs := #[.int .i64 0, .int .i64 0]) (t := 34) ?_; intro gb564 hg w39 hbox hb; have BK564 := aM (hbox); have GW564 := aM (gw (w := w) hg); have GE564 := aM (gw (w := w) hg); have NB555_564 := aM (nb BK555 hg); have NB564_555 := aM (nb BK555 hg).symm; replace HO561 := aM (rB (rL (rl HO561) gb564 (Nat.le_of_eq hg.symm)) hb); replace BK555 := aM (kB (kl BK555) hb); replace HB := aM (bS (bl) hb); clear hb hbox hg; have hnb40 := NB564_555.out; have hnc40 := NB555_564.out; obtain ⟨hcz41_0, hcz41_1, hfz41_0, hfz41_1⟩ := bc2 BK564) | ((with_reducible refine gate_store (t := 34) (p := 6) rfl ?_); refine store_event (t := 34) (p := 6) (v := ?vo_w42) (w1 := ((w39.setCell ⟨gb564, 0, none⟩ (.int .i64 ((rd_T34 t559 (ji26)).f0))).setCell ⟨gb564, 1, none⟩ (.int .i64 ((rd_T34 t559 (ji26)).f1)))) ?hg ?ho ?hn ?hr ?_; (case ho => rfl); (case hg => rfl); (case hn => rfl); (case hr => first | (go_simp; done) | (go_simp; rfl)); intro w42 hw; have n0_ : Aside0 (Kd.R k34 34 w42 w.heap.size (fun k_ => k_ ≠ gb564) (.slice (some ad563) t559.length co37) t559) := ⟨(by rw [hw]; exact (by (with_reducible repeat (first | apply rA | apply rN | apply rD)); exact rM (Kd.R_far (p := ⟨gb564, 1, none⟩) (Kd.R_far (p := ⟨gb564, 0, none⟩) (rM HO561.out (fun k_ hk => (⟨hk, hk.2⟩ : _ ∧ k_ ≠ gb564))) (fun _ hk => hk.2) (.int .i64 ((rd_T34 t559 (ji26)).f0))) (fun _ hk => hk.2) (.int .i64 ((rd_T34 t559 (ji26)).f1))) (fun _ hk => hk.1.2)))⟩; have n1_ : Aside0 (w42.heap[gb555]? = some (.cells #[.slice A0_0 l0_0.length c0_0, .slice A0_1 l0_1.length c0_1, .slice A0_2 l0_2.length c0_2] 26 (0, 0))) := ⟨(by rw [hw]; exact (by (with_reducible repeat (first | refine kN ?_ _ | refine kD ?_ | refine kA ?_ _)); refine blk_far ?_ NB555_564.out _; (with_reducible repeat (first | refine kN ?_ _ | refine kD ?_ | refine kA ?_ _)); refine blk_far ?_ NB555_564.out _; (with_reducible repeat (first | refine kN ?_ _ | refine kD ?_ | refine kA ?_ _)); exact BK555.out))⟩; have n2_ : Aside0 (w42.heap[gb564]? = some (.cells #[.int .i64 ((rd_T34 t559 (ji26)).f0), .int .i64 ((rd_T34 t559 (ji26)).f1)] 34 (0, 0))) := ⟨(by rw [hw]; exact (by (with_reducible repeat (first | refine kN ?_ _ | refine kD ?_ | refine kA ?_ _)); refine kP (cs := #[.int .i64 ((rd_T34 t559 (ji26)).f0), .int .i64 0]) ?_ 1 _ rfl; (with_reducible repeat (first | refine kN ?_ _ | refine kD ?_ | refine kA ?_ _)); refine kP (cs := #[.int .i64 0, .int .i64 0]) ?_ 0 _ rfl; (with_reducible repeat (first | refine kN ?_ _ | refine kD ?_ | refine kA ?_ _)); exact BK564.out))⟩; have n3_ : Aside0 (Below w.heap.size w w42) := ⟨(by rw [hw]; exact (bl))⟩; clear hw HO561 BK555 BK564 HB; have HO561 := n0_; have BK555 := n1_; have BK564 := n2_; have HB := n3_; clear n0_ n1_ n2_ n3_; obtain ⟨hcz43_0, hcz43_1, hcz43_2, hfz43_0, hfz43_1, hfz43_2⟩ := bc3 BK555; obtain ⟨hcz44_0, hcz44_1, hfz44_0, hfz44_1⟩ := bc2 BK564) | ((with_reducible refine gate_callee (f := 33) rfl ?_); refine goesL_ (some 47) rfl rfl Try.func33 (by kernel_rfl) rfl #[.agg #[.slice A0_0 l0_0.length c0_0, .slice A0_1 l0_1.length c0_1, .slice A0_2 l0_2.length c0_2], .agg #[.int .i64 ((rd_T34 t559 (ji26)).f0), .int .i64 ((rd_T34 t559 (ji26)).f1)]] rfl (by (try simp only [List.map_toArray, List.map_cons, List.map_nil]); first | done | (simp only [hji26]; rfl) | rfl | (simp only [List.length_drop, List.length_take]; rfl)) ?_; (with_reducible refine (mapmakerlaw14_without.calls kj2 (fun k_ => k_ < w.heap.size) _ _ l0_0 (fun k_ => k_ < w.heap.size) _ _ l0_1 (fun k_ => k_ < w.heap.size) _ _ l0_2 ((rd_T34 t559 (ji26)).f0) ((rd_T34 t559 (ji26)).f1) t565 t568 t571 _ ?side1 ?side2 ?side3 A29.out).mono ?_); (case side1 => exact Kd.V_mk HC0_0.out (Kd.F_below (Kd.C_F k39_heap HR0_0.out) (bl))); (case side2 => exact Kd.V_mk HC0_1.out (Kd.F_below (Kd.C_F k45_heap HR0_1.out) (bl))); (case side3 => exact Kd.V_mk HC0_2.out (Kd.F_below (Kd.C_F k51_heap HR0_2.out) (bl))); rintro e w45 ⟨v566, v569, v572, rfl, ho0, ho1, ho2, hb⟩; refine ⟨_, rfl, ?_⟩; have HO567 := aM (Kd.N_lower (Kd.N_mono (ok' := fun k_ => some k_ ≠ (v569 : Value).ownBlock ∧ some k_ ≠ (v572 : Value).ownBlock ∧ some k_ ≠ (.slice (some ad563) t559.length co37 : Value).ownBlock ∧ k_ ≠ gb555 ∧ k_ ≠ gb564) ho0 (fun k_ hk_ => ⟨hk_.2.1, hk_.2.2, Or.elim hk_.1 (fun hs_ => Or.elim hs_ (fun hs_ => fun e_ => Nat.not_le.2 hs_ (Kd.R_base HO561.out k_ e_.symm)) (fun hs_ => Or.elim hs_ (fun hs_ => fun e_ => Nat.not_le.2 hs_ (Kd.R_base HO561.out k_ e_.symm)) (fun hs_ => fun e_ => Nat.not_le.2 hs_ (Kd.R_base HO561.out k_ e_.symm)))) (fun hn_ => (Kd.fresh' (Kd.R_lt (rl HO561)) k_ hn_)), Or.elim hk_.1 (fun hs_ => Or.elim hs_ (fun hs_ => fun e_ => Nat.not_le.2 hs_ (by rw [e_]; exact GW555.out)) (fun hs_ => Or.elim hs_ (fun hs_ => fun e_ => Nat.not_le.2 hs_ (by rw [e_]; exact GW555.out)) (fun hs_ => fun e_ => Nat.not_le.2 hs_ (by rw [e_]; exact GW555.out)))) (fun hn_ => (Kd.freshB (kl BK555) k_ hn_)), Or.elim hk_.1 (fun hs_ => Or.elim hs_ (fun hs_ => fun e_ => Nat.not_le.2 hs_ (by rw [e_]; exact GW564.out)) (fun hs_ => Or.elim hs_ (fun hs_ => fun e_ => Nat.not_le.2 hs_ (by rw [e_]; exact GW564.out)) (fun hs_ => fun e_ => Nat.not_le.2 hs_ (by rw [e_]; exact GW564.out)))) (fun hn_ => (Kd.freshB (kl BK564) k_ hn_))⟩)) (below_size (bl))); have HO570 := aM (Kd.N_lower (Kd.N_mono (ok' := fun k_ => some k_ ≠ (v566 : Value).ownBlock ∧ some k_ ≠ (v572 : Value).ownBlock ∧ some k_ ≠ (.slice (some ad563) t559.length co37 : Value).ownBlock ∧ k_ ≠ gb555 ∧ k_ ≠ gb564) ho1 (fun k_ hk_ => ⟨hk_.2.1, hk_.2.2, Or.elim hk_.1 (fun hs_ => Or.elim hs_ (fun hs_ => fun e_ => Nat.not_le.2 hs_ (Kd.R_base HO561.out k_ e_.symm)) (fun hs_ => Or.elim hs_ (fun hs_ => fun e_ => Nat.not_le.2 hs_ (Kd.R_base HO561.out k_ e_.symm)) (fun hs_ => fun e_ => Nat.not_le.2 hs_ (Kd.R_base HO561.out k_ e_.symm)))) (fun hn_ => (Kd.fresh' (Kd.R_lt (rl HO561)) k_ hn_)), Or.elim hk_.1 (fun hs_ => Or.elim hs_ (fun hs_ => fun e_ => Nat.not_le.2 hs_ (by rw [e_]; exact GW555.out)) (fun hs_ => Or.elim hs_ (fun hs_ => fun e_ => Nat.not_le.2 hs_ (by rw [e_]; exact GW555.out)) (fun hs_ => fun e_ => Nat.not_le.2 hs_ (by rw [e_]; exact GW555.out)))) (fun hn_ => (Kd.freshB (kl BK555) k_ hn_)), Or.elim hk_.1 (fun hs_ => Or.elim hs_ (fun hs_ => fun e_ => Nat.not_le.2 hs_ (by rw [e_]; exact GW564.out)) (fun hs_ => Or.elim hs_ (fun hs_ => fun e_ => Nat.not_le.2 hs_ (by rw [e_]; exact GW564.out)) (fun hs_ => fun e_ => Nat.not_le.2 hs_ (by rw [e_]; exact GW564.out)))) (fun hn_ => (Kd.freshB (kl BK564) k_ hn_))⟩)) (below_size (bl))); have HO573 := aM (Kd.N_lower (Kd.N_mono (ok' := fun k_ => some k_ ≠ (v566 : Value).ownBlock ∧ some k_ ≠ (v569 : Value).ownBlock ∧ some k_ ≠ (.slice (some ad563) t559.length co37 : Value).ownBlock ∧ k_ ≠ gb555 ∧ k_ ≠ gb564) ho2 (fun k_ hk_ => ⟨hk_.2.1, hk_.2.2, Or.elim hk_.1 (fun hs_ => Or.elim hs_ (fun hs_ => fun e_ => Nat.not_le.2 hs_ (Kd.R_base HO561.out k_ e_.symm)) (fun hs_ => Or.elim hs_ (fun hs_ => fun e_ => Nat.not_le.2 hs_ (Kd.R_base HO561.out k_ e_.symm)) (fun hs_ => fun e_ => Nat.not_le.2 hs_ (Kd.R_base HO561.out k_ e_.symm)))) (fun hn_ => (Kd.fresh' (Kd.R_lt (rl HO561)) k_ hn_)), Or.elim hk_.1 (fun hs_ => Or.elim hs_ (fun hs_ => fun e_ => Nat.not_le.2 hs_ (by rw [e_]; exact GW555.out)) (fun hs_ => Or.elim hs_ (fun hs_ => fun e_ => Nat.not_le.2 hs_ (by rw [e_]; exact GW555.out)) (fun hs_ => fun e_ => Nat.not_le.2 hs_ (by rw [e_]; exact GW555.out)))) (fun hn_ => (Kd.freshB (kl BK555) k_ hn_)), Or.elim hk_.1 (fun hs_ => Or.elim hs_ (fun hs_ => fun e_ => Nat.not_le.2 hs_ (by rw [e_]; exact GW564.out)) (fun hs_ => Or.elim hs_ (fun hs_ => fun e_ => Nat.not_le.2 hs_ (by rw [e_]; exact GW564.out)) (fun hs_ => fun e_ => Nat.not_le.2 hs_ (by rw [e_]; exact GW564.out)))) (fun hn_ => (Kd.freshB (kl BK564) k_ hn_))⟩)) (below_size (bl))); replace HO561 := aM (rB (rl HO561) hb); replace BK555 := aM (kB (kl BK555) hb); replace BK564 := aM (kB (kl BK564) hb); replace HB := aM (bS (bl) hb); (try clear hb); (try clear ho0); (try clear ho1); (try clear ho2); obtain ⟨Ao46, co46, eo46⟩ := Kd.N_slice HO567.out; subst eo46; obtain ⟨Ao47, co47, eo47⟩ := Kd.N_slice HO570.out; subst eo47; obtain ⟨Ao48, co48, eo48⟩ := Kd.N_slice HO573.out; subst eo48) | ((with_reducible refine gate_callee (f := 10) rfl ?_); refine gL (some 48) Try.func10 #[.agg #[.slice Ao46 t565.length co46, .slice Ao47 t568.length co47, .slice Ao48 t571.length co48]] ?_; (with_reducible refine (data_Check.calls kj2 _ _ t565 _ _ t568 _ _ t571 t574 _ ?side1 ?side2 ?side3 ?side4 ?side5 ?side6 A30.out).mono ?_); (case side1 => repeat (first | exact (Kd.N_reads' HO567.out).2.2 | (with_reducible refine cA ?_ _) | (with_reducible refine cN ?_ _) | (with_reducible refine cD ?_))); (case side2 => exact (Kd.N_reads' HO567.out).2.1); (case side3 => repeat (first | exact (Kd.N_reads' HO570.out).2.2 | (with_reducible refine cA ?_ _) | (with_reducible refine cN ?_ _) | (with_reducible refine cD ?_))); (case side4 => exact (Kd.N_reads' HO570.out).2.1); (case side5 => repeat (first | exact (Kd.N_reads' HO573.out).2.2 | (with_reducible refine cA ?_ _) | (with_reducible refine cN ?_ _) | (with_reducible refine cD ?_))); (case side6 => exact (Kd.N_reads' HO573.out).2.1); rintro e w49 ⟨rfl, hb⟩; refine ⟨_, rfl, ?_⟩; replace HO561 := aM (rB (rl HO561) hb); replace HO567 := aM (Kd.N_below (by (with_reducible repeat (first | apply Kd.N_alloc | apply Kd.N_drewN | apply Kd.N_drew)); exact HO567.out) hb); replace HO570 := aM (Kd.N_below (by (with_reducible repeat (first | apply Kd.N_alloc | apply Kd.N_drewN | apply Kd.N_drew)); exact HO570.out) hb); replace HO573 := aM (Kd.N_below (by (with_reducible repeat (first | apply Kd.N_alloc | apply Kd.N_drewN | apply Kd.N_drew)); exact HO573.out) hb); replace BK555 := aM (kB (kl BK555) hb); replace BK564 := aM (kB (kl BK564) hb); replace HB := aM (bS (bl) hb); (try clear hb); obtain ⟨hcz50_0, hcz50_1, hcz50_2, hfz50_0, hfz50_1, hfz50_2⟩ := bc3 BK555; obtain ⟨hcz51_0, hcz51_1, hfz51_0, hfz51_1⟩ := bc2 BK564) | ((with_reducible refine gate_callee (f := 24) rfl ?_); refine goesL_ (some 51) rfl rfl Try.func24 (by kernel_rfl) rfl #[.agg #[.slice A0_0 l0_0.length c0_0, .slice A0_1 l0_1.length c0_1, .slice A0_2 l0_2.length c0_2], .agg #[.int .i64 ((rd_T34 t559 (ji26)).f0), .int .i64 ((rd_T34 t559 (ji26)).f1)]] rfl (by (try simp only [List.map_toArray, List.map_cons, List.map_nil]); first | done | (simp only [hji26]; rfl) | rfl | (simp only [List.length_drop, List.length_take]; rfl)) ?_; (with_reducible refine (data_Users.calls kj2 _ _ l0_0 _ _ l0_1 _ _ l0_2 ((rd_T34 t559 (ji26)).f0) ((rd_T34 t559 (ji26)).f1) t575 _ ?side1 ?side2 ?side3 ?side4 ?side5 ?side6 A31.out).mono ?_); (case side1 => exact cl HR0_0); (case side2 => exact HC0_0.out); (case side3 => exact cl HR0_1); (case side4 => exact HC0_1.out); (case side5 => exact cl HR0_2); (case side6 => exact HC0_2.out); rintro e w52 ⟨v576, rfl, ho0, hb⟩; refine ⟨_, rfl, ?_⟩; replace HO567 := aM (Kd.N_elder' (by (with_reducible repeat (first | apply Kd.N_alloc | apply Kd.N_drewN | apply Kd.N_drew)); exact HO567.out) (Kd.R_base ho0) hb); replace HO570 := aM (Kd.N_elder' (by (with_reducible repeat (first | apply Kd.N_alloc | apply Kd.N_drewN | apply Kd.N_drew)); exact HO570.out) (Kd.R_base ho0) hb); replace HO573 := aM (Kd.N_elder' (by (with_reducible repeat (first | apply Kd.N_alloc | apply Kd.N_drewN | apply Kd.N_drew)); exact HO573.out) (Kd.R_base ho0) hb); have HO577 := aM (Kd.R_lower (Kd.R_newB (Kd.R_new' ho0 (Kd.R_lt (rl HO561))) (kl BK564)) (below_size (bl))); replace HO561 := aM (rE (rl HO561) (Kd.R_base ho0) hb); replace BK555 := aM (kB (kl BK555) hb); replace BK564 := aM (kB (kl BK564) hb); replace HB := aM (bS (bl) hb); (try clear hb); (try clear ho0); obtain ⟨Ao53, co53, eo53⟩ := Kd.R_slice HO577.out; subst eo53) | (go_at_call 9; (with_reducible refine (mapmakerlaw14_lives.calls kj2  t578 _ A34.out).mono ?_); rintro e w54 ⟨rfl, hb⟩; replace HO561 := aM (rB (rl HO561) hb); replace HO567 := aM (Kd.N_below (by (with_reducible repeat (first | apply Kd.N_alloc | apply Kd.N_drewN | apply Kd.N_drew)); exact HO567.out) hb); replace HO570 := aM (Kd.N_below (by (with_reducible repeat (first | apply Kd.N_alloc | apply Kd.N_drewN | apply Kd.N_drew)); exact HO570.out) hb); replace HO573 := aM (Kd.N_below (by (with_reducible repeat (first | apply Kd.N_alloc | apply Kd.N_drewN | apply Kd.N_drew)); exact HO573.out) hb); replace HO577 := aM (rB (rl HO577) hb); replace BK555 := aM (kB (kl BK555) hb); replace BK564 := aM (kB (kl BK564) hb); replace HB := aM (bS (bl) hb); (try clear hb)))
          go_ret
          exact ⟨by first | rfl | (simp [errW_none, errW_some] <;> rfl) | (simp only [← hji26]; first | rfl | (simp [errW_none, errW_some] <;> rfl)) | (simp [*, errW_none, errW_some] <;> rfl), bl⟩
         ·rw [if_neg c33] at H
          have c33b0 : (t574 == 9) = false := beq_eq_false_iff_ne.mpr c33
          have c33b1 : (t574 != 9) = true := bne_iff_ne.mpr c33
          obtain rfl := Option.some.inj H
          cases hT
        ·rw [if_neg c32] at H
         have c32b0 : decide (0 < (t575.length : Int)) = false := decide_eq_false c32
         have c32b1 : decide (0 < t575.length) = false := decide_eq_false (by omega)
         clear c32
         by_cases c74 : t574 = 0
         ·rw [if_pos c74] at H
          have c74b0 : (t574 == 0) = true := beq_iff_eq.mpr c74
          have c74b1 : (t574 != 0) = false := bne_eq_false_iff_eq.mpr c74
          clear c74
          replace H := Option.bind_eq_some_iff.mp H
          obtain ⟨t579, A750, H⟩ := H
          try dsimp only at H
          have A75 := aM A750
          clear A750
          obtain rfl := Option.some.inj H
          obtain ⟨hcz76_0, hcz76_1, hcz76_2, hfz76_0, hfz76_1, hfz76_2⟩ := bc3 BK555
          go_wp2_with (first | ((with_reducible refine gate_callee (f := 26) rfl ?_); refine gL (some 18) Try.func26 #[.agg #[.slice A0_0 l0_0.length c0_0, .slice A0_1 l0_1.length c0_1, .slice A0_2 l0_2.length c0_2]] ?_; (with_reducible refine (data_Refs.calls kj2 _ _ l0_0 _ _ l0_1 _ _ l0_2 t559 _ ?side1 ?side2 ?side3 ?side4 ?side5 ?side6 A17.out).mono ?_); (case side1 => exact cl HR0_0); (case side2 => exact HC0_0.out); (case side3 => exact cl HR0_1); (case side4 => exact HC0_1.out); (case side5 => exact cl HR0_2); (case side6 => exact HC0_2.out); rintro e w77 ⟨v560, rfl, ho0, hb⟩; refine ⟨_, rfl, ?_⟩; have HO561 := aM (Kd.R_lower ho0 (below_size (bl))); replace BK555 := aM (kB (kl BK555) hb); replace HB := aM (bS (bl) hb); (try clear hb); (try clear ho0); obtain ⟨Ao78, co78, eo78⟩ := Kd.R_slice HO561.out; subst eo78; obtain ⟨hcz79_0, hcz79_1, hcz79_2, hfz79_0, hfz79_1, hfz79_2⟩ := bc3 BK555; have p563 : 0 ≤ ((ji26) : Int) := of_decide_eq_true (by first | (with_reducible assumption) | assumption); have q563 : (ji26) < (t559.length : Int) := of_decide_eq_true (by first | (with_reducible assumption) | assumption); obtain ⟨ad563, e563, hx563_0, hx563_1⟩ := at_T34 (rR HO561.out).2.2 (ji26) p563 q563; cases e563; replace p563 := eq_true p563; replace q563 := eq_true q563) | ((with_reducible refine gate_dst (N := 6) rfl ?_); refine bx (N := 6) (cs := #[.int .i64 0, .int .i64 0]) (t := 34) ?_; intro gb564 hg w80 hbox hb; have BK564 := aM (hbox); have GW564 := aM (gw (w := w) hg); have GE564 := aM (gw (w := w) hg); have NB555_564 := aM (nb BK555 hg); have NB564_555 := aM (nb BK555 hg).symm; replace HO561 := aM (rB (rL (rl HO561) gb564 (Nat.le_of_eq hg.symm)) hb); replace BK555 := aM (kB (kl BK555) hb); replace HB := aM (bS (bl) hb); clear hb hbox hg; have hnb81 := NB564_555.out; have hnc81 := NB555_564.out; obtain ⟨hcz82_0, hcz82_1, hfz82_0, hfz82_1⟩ := bc2 BK564) | ((with_reducible refine gate_store (t := 34) (p := 6) rfl ?_); refine store_event (t := 34) (p := 6) (v := ?vo_w83) (w1 := ((w80.setCell ⟨gb564, 0, none⟩ (.int .i64 ((rd_T34 t559 (ji26)).f0))).setCell ⟨gb564, 1, none⟩ (.int .i64 ((rd_T34 t559 (ji26)).f1)))) ?hg ?ho ?hn ?hr ?_; (case ho => rfl); (case hg => rfl); (case hn => rfl); (case hr => first | (go_simp; done) | (go_simp; rfl)); intro w83 hw; have n0_ : Aside0 (Kd.R k34 34 w83 w.heap.size (fun k_ => k_ ≠ gb564) (.slice (some ad563) t559.length co78) t559) := ⟨(by rw [hw]; exact (by (with_reducible repeat (first | apply rA | apply rN | apply rD)); exact rM (Kd.R_far (p := ⟨gb564, 1, none⟩) (Kd.R_far (p := ⟨gb564, 0, none⟩) (rM HO561.out (fun k_ hk => (⟨hk, hk.2⟩ : _ ∧ k_ ≠ gb564))) (fun _ hk => hk.2) (.int .i64 ((rd_T34 t559 (ji26)).f0))) (fun _ hk => hk.2) (.int .i64 ((rd_T34 t559 (ji26)).f1))) (fun _ hk => hk.1.2)))⟩; have n1_ : Aside0 (w83.heap[gb555]? = some (.cells #[.slice A0_0 l0_0.length c0_0, .slice A0_1 l0_1.length c0_1, .slice A0_2 l0_2.length c0_2] 26 (0, 0))) := ⟨(by rw [hw]; exact (by (with_reducible repeat (first | refine kN ?_ _ | refine kD ?_ | refine kA ?_ _)); refine blk_far ?_ NB555_564.out _; (with_reducible repeat (first | refine kN ?_ _ | refine kD ?_ | refine kA ?_ _)); refine blk_far ?_ NB555_564.out _; (with_reducible repeat (first | refine kN ?_ _ | refine kD ?_ | refine kA ?_ _)); exact BK555.out))⟩; have n2_ : Aside0 (w83.heap[gb564]? = some (.cells #[.int .i64 ((rd_T34 t559 (ji26)).f0), .int .i64 ((rd_T34 t559 (ji26)).f1)] 34 (0, 0))) := ⟨(by rw [hw]; exact (by (with_reducible repeat (first | refine kN ?_ _ | refine kD ?_ | refine kA ?_ _)); refine kP (cs := #[.int .i64 ((rd_T34 t559 (ji26)).f0), .int .i64 0]) ?_ 1 _ rfl; (with_reducible repeat (first | refine kN ?_ _ | refine kD ?_ | refine kA ?_ _)); refine kP (cs := #[.int .i64 0, .int .i64 0]) ?_ 0 _ rfl; (with_reducible repeat (first | refine kN ?_ _ | refine kD ?_ | refine kA ?_ _)); exact BK564.out))⟩; have n3_ : Aside0 (Below w.heap.size w w83) := ⟨(by rw [hw]; exact (bl))⟩; clear hw HO561 BK555 BK564 HB; have HO561 := n0_; have BK555 := n1_; have BK564 := n2_; have HB := n3_; clear n0_ n1_ n2_ n3_; obtain ⟨hcz84_0, hcz84_1, hcz84_2, hfz84_0, hfz84_1, hfz84_2⟩ := bc3 BK555; obtain ⟨hcz85_0, hcz85_1, hfz85_0, hfz85_1⟩ := bc2 BK564) | ((with_reducible refine gate_callee (f := 33) rfl ?_); refine goesL_ (some 47) rfl rfl Try.func33 (by kernel_rfl) rfl #[.agg #[.slice A0_0 l0_0.length c0_0, .slice A0_1 l0_1.length c0_1, .slice A0_2 l0_2.length c0_2], .agg #[.int .i64 ((rd_T34 t559 (ji26)).f0), .int .i64 ((rd_T34 t559 (ji26)).f1)]] rfl (by (try simp only [List.map_toArray, List.map_cons, List.map_nil]); first | done | (simp only [hji26]; rfl) | rfl | (simp only [List.length_drop, List.length_take]; rfl)) ?_; (with_reducible refine (mapmakerlaw14_without.calls kj2 (fun k_ => k_ < w.heap.size) _ _ l0_0 (fun k_ => k_ < w.heap.size) _ _ l0_1 (fun k_ => k_ < w.heap.size) _ _ l0_2 ((rd_T34 t559 (ji26)).f0) ((rd_T34 t559 (ji26)).f1) t565 t568 t571 _ ?side1 ?side2 ?side3 A29.out).mono ?_); (case side1 => exact Kd.V_mk HC0_0.out (Kd.F_below (Kd.C_F k39_heap HR0_0.out) (bl))); (case side2 => exact Kd.V_mk HC0_1.out (Kd.F_below (Kd.C_F k45_heap HR0_1.out) (bl))); (case side3 => exact Kd.V_mk HC0_2.out (Kd.F_below (Kd.C_F k51_heap HR0_2.out) (bl))); rintro e w86 ⟨v566, v569, v572, rfl, ho0, ho1, ho2, hb⟩; refine ⟨_, rfl, ?_⟩; have HO567 := aM (Kd.N_lower (Kd.N_mono (ok' := fun k_ => some k_ ≠ (v569 : Value).ownBlock ∧ some k_ ≠ (v572 : Value).ownBlock ∧ some k_ ≠ (.slice (some ad563) t559.length co78 : Value).ownBlock ∧ k_ ≠ gb555 ∧ k_ ≠ gb564) ho0 (fun k_ hk_ => ⟨hk_.2.1, hk_.2.2, Or.elim hk_.1 (fun hs_ => Or.elim hs_ (fun hs_ => fun e_ => Nat.not_le.2 hs_ (Kd.R_base HO561.out k_ e_.symm)) (fun hs_ => Or.elim hs_ (fun hs_ => fun e_ => Nat.not_le.2 hs_ (Kd.R_base HO561.out k_ e_.symm)) (fun hs_ => fun e_ => Nat.not_le.2 hs_ (Kd.R_base HO561.out k_ e_.symm)))) (fun hn_ => (Kd.fresh' (Kd.R_lt (rl HO561)) k_ hn_)), Or.elim hk_.1 (fun hs_ => Or.elim hs_ (fun hs_ => fun e_ => Nat.not_le.2 hs_ (by rw [e_]; exact GW555.out)) (fun hs_ => Or.elim hs_ (fun hs_ => fun e_ => Nat.not_le.2 hs_ (by rw [e_]; exact GW555.out)) (fun hs_ => fun e_ => Nat.not_le.2 hs_ (by rw [e_]; exact GW555.out)))) (fun hn_ => (Kd.freshB (kl BK555) k_ hn_)), Or.elim hk_.1 (fun hs_ => Or.elim hs_ (fun hs_ => fun e_ => Nat.not_le.2 hs_ (by rw [e_]; exact GW564.out)) (fun hs_ => Or.elim hs_ (fun hs_ => fun e_ => Nat.not_le.2 hs_ (by rw [e_]; exact GW564.out)) (fun hs_ => fun e_ => Nat.not_le.2 hs_ (by rw [e_]; exact GW564.out)))) (fun hn_ => (Kd.freshB (kl BK564) k_ hn_))⟩)) (below_size (bl))); have HO570 := aM (Kd.N_lower (Kd.N_mono (ok' := fun k_ => some k_ ≠ (v566 : Value).ownBlock ∧ some k_ ≠ (v572 : Value).ownBlock ∧ some k_ ≠ (.slice (some ad563) t559.length co78 : Value).ownBlock ∧ k_ ≠ gb555 ∧ k_ ≠ gb564) ho1 (fun k_ hk_ => ⟨hk_.2.1, hk_.2.2, Or.elim hk_.1 (fun hs_ => Or.elim hs_ (fun hs_ => fun e_ => Nat.not_le.2 hs_ (Kd.R_base HO561.out k_ e_.symm)) (fun hs_ => Or.elim hs_ (fun hs_ => fun e_ => Nat.not_le.2 hs_ (Kd.R_base HO561.out k_ e_.symm)) (fun hs_ => fun e_ => Nat.not_le.2 hs_ (Kd.R_base HO561.out k_ e_.symm)))) (fun hn_ => (Kd.fresh' (Kd.R_lt (rl HO561)) k_ hn_)), Or.elim hk_.1 (fun hs_ => Or.elim hs_ (fun hs_ => fun e_ => Nat.not_le.2 hs_ (by rw [e_]; exact GW555.out)) (fun hs_ => Or.elim hs_ (fun hs_ => fun e_ => Nat.not_le.2 hs_ (by rw [e_]; exact GW555.out)) (fun hs_ => fun e_ => Nat.not_le.2 hs_ (by rw [e_]; exact GW555.out)))) (fun hn_ => (Kd.freshB (kl BK555) k_ hn_)), Or.elim hk_.1 (fun hs_ => Or.elim hs_ (fun hs_ => fun e_ => Nat.not_le.2 hs_ (by rw [e_]; exact GW564.out)) (fun hs_ => Or.elim hs_ (fun hs_ => fun e_ => Nat.not_le.2 hs_ (by rw [e_]; exact GW564.out)) (fun hs_ => fun e_ => Nat.not_le.2 hs_ (by rw [e_]; exact GW564.out)))) (fun hn_ => (Kd.freshB (kl BK564) k_ hn_))⟩)) (below_size (bl))); have HO573 := aM (Kd.N_lower (Kd.N_mono (ok' := fun k_ => some k_ ≠ (v566 : Value).ownBlock ∧ some k_ ≠ (v569 : Value).ownBlock ∧ some k_ ≠ (.slice (some ad563) t559.length co78 : Value).ownBlock ∧ k_ ≠ gb555 ∧ k_ ≠ gb564) ho2 (fun k_ hk_ => ⟨hk_.2.1, hk_.2.2, Or.elim hk_.1 (fun hs_ => Or.elim hs_ (fun hs_ => fun e_ => Nat.not_le.2 hs_ (Kd.R_base HO561.out k_ e_.symm)) (fun hs_ => Or.elim hs_ (fun hs_ => fun e_ => Nat.not_le.2 hs_ (Kd.R_base HO561.out k_ e_.symm)) (fun hs_ => fun e_ => Nat.not_le.2 hs_ (Kd.R_base HO561.out k_ e_.symm)))) (fun hn_ => (Kd.fresh' (Kd.R_lt (rl HO561)) k_ hn_)), Or.elim hk_.1 (fun hs_ => Or.elim hs_ (fun hs_ => fun e_ => Nat.not_le.2 hs_ (by rw [e_]; exact GW555.out)) (fun hs_ => Or.elim hs_ (fun hs_ => fun e_ => Nat.not_le.2 hs_ (by rw [e_]; exact GW555.out)) (fun hs_ => fun e_ => Nat.not_le.2 hs_ (by rw [e_]; exact GW555.out)))) (fun hn_ => (Kd.freshB (kl BK555) k_ hn_)), Or.elim hk_.1 (fun hs_ => Or.elim hs_ (fun hs_ => fun e_ => Nat.not_le.2 hs_ (by rw [e_]; exact GW564.out)) (fun hs_ => Or.elim hs_ (fun hs_ => fun e_ => Nat.not_le.2 hs_ (by rw [e_]; exact GW564.out)) (fun hs_ => fun e_ => Nat.not_le.2 hs_ (by rw [e_]; exact GW564.out)))) (fun hn_ => (Kd.freshB (kl BK564) k_ hn_))⟩)) (below_size (bl))); replace HO561 := aM (rB (rl HO561) hb); replace BK555 := aM (kB (kl BK555) hb); replace BK564 := aM (kB (kl BK564) hb); replace HB := aM (bS (bl) hb); (try clear hb); (try clear ho0); (try clear ho1); (try clear ho2); obtain ⟨Ao87, co87, eo87⟩ := Kd.N_slice HO567.out; subst eo87; obtain ⟨Ao88, co88, eo88⟩ := Kd.N_slice HO570.out; subst eo88; obtain ⟨Ao89, co89, eo89⟩ := Kd.N_slice HO573.out; subst eo89) | ((with_reducible refine gate_callee (f := 10) rfl ?_); refine gL (some 48) Try.func10 #[.agg #[.slice Ao87 t565.length co87, .slice Ao88 t568.length co88, .slice Ao89 t571.length co89]] ?_; (with_reducible refine (data_Check.calls kj2 _ _ t565 _ _ t568 _ _ t571 t574 _ ?side1 ?side2 ?side3 ?side4 ?side5 ?side6 A30.out).mono ?_); (case side1 => repeat (first | exact (Kd.N_reads' HO567.out).2.2 | (with_reducible refine cA ?_ _) | (with_reducible refine cN ?_ _) | (with_reducible refine cD ?_))); (case side2 => exact (Kd.N_reads' HO567.out).2.1); (case side3 => repeat (first | exact (Kd.N_reads' HO570.out).2.2 | (with_reducible refine cA ?_ _) | (with_reducible refine cN ?_ _) | (with_reducible refine cD ?_))); (case side4 => exact (Kd.N_reads' HO570.out).2.1); (case side5 => repeat (first | exact (Kd.N_reads' HO573.out).2.2 | (with_reducible refine cA ?_ _) | (with_reducible refine cN ?_ _) | (with_reducible refine cD ?_))); (case side6 => exact (Kd.N_reads' HO573.out).2.1); rintro e w90 ⟨rfl, hb⟩; refine ⟨_, rfl, ?_⟩; replace HO561 := aM (rB (rl HO561) hb); replace HO567 := aM (Kd.N_below (by (with_reducible repeat (first | apply Kd.N_alloc | apply Kd.N_drewN | apply Kd.N_drew)); exact HO567.out) hb); replace HO570 := aM (Kd.N_below (by (with_reducible repeat (first | apply Kd.N_alloc | apply Kd.N_drewN | apply Kd.N_drew)); exact HO570.out) hb); replace HO573 := aM (Kd.N_below (by (with_reducible repeat (first | apply Kd.N_alloc | apply Kd.N_drewN | apply Kd.N_drew)); exact HO573.out) hb); replace BK555 := aM (kB (kl BK555) hb); replace BK564 := aM (kB (kl BK564) hb); replace HB := aM (bS (bl) hb); (try clear hb); obtain ⟨hcz91_0, hcz91_1, hcz91_2, hfz91_0, hfz91_1, hfz91_2⟩ := bc3 BK555; obtain ⟨hcz92_0, hcz92_1, hfz92_0, hfz92_1⟩ := bc2 BK564) | ((with_reducible refine gate_callee (f := 24) rfl ?_); refine goesL_ (some 51) rfl rfl Try.func24 (by kernel_rfl) rfl #[.agg #[.slice A0_0 l0_0.length c0_0, .slice A0_1 l0_1.length c0_1, .slice A0_2 l0_2.length c0_2], .agg #[.int .i64 ((rd_T34 t559 (ji26)).f0), .int .i64 ((rd_T34 t559 (ji26)).f1)]] rfl (by (try simp only [List.map_toArray, List.map_cons, List.map_nil]); first | done | (simp only [hji26]; rfl) | rfl | (simp only [List.length_drop, List.length_take]; rfl)) ?_; (with_reducible refine (data_Users.calls kj2 _ _ l0_0 _ _ l0_1 _ _ l0_2 ((rd_T34 t559 (ji26)).f0) ((rd_T34 t559 (ji26)).f1) t575 _ ?side1 ?side2 ?side3 ?side4 ?side5 ?side6 A31.out).mono ?_); (case side1 => exact cl HR0_0); (case side2 => exact HC0_0.out); (case side3 => exact cl HR0_1); (case side4 => exact HC0_1.out); (case side5 => exact cl HR0_2); (case side6 => exact HC0_2.out); rintro e w93 ⟨v576, rfl, ho0, hb⟩; refine ⟨_, rfl, ?_⟩; replace HO567 := aM (Kd.N_elder' (by (with_reducible repeat (first | apply Kd.N_alloc | apply Kd.N_drewN | apply Kd.N_drew)); exact HO567.out) (Kd.R_base ho0) hb); replace HO570 := aM (Kd.N_elder' (by (with_reducible repeat (first | apply Kd.N_alloc | apply Kd.N_drewN | apply Kd.N_drew)); exact HO570.out) (Kd.R_base ho0) hb); replace HO573 := aM (Kd.N_elder' (by (with_reducible repeat (first | apply Kd.N_alloc | apply Kd.N_drewN | apply Kd.N_drew)); exact HO573.out) (Kd.R_base ho0) hb); have HO577 := aM (Kd.R_lower (Kd.R_newB (Kd.R_new' ho0 (Kd.R_lt (rl HO561))) (kl BK564)) (below_size (bl))); replace HO561 := aM (rE (rl HO561) (Kd.R_base ho0) hb); replace BK555 := aM (kB (kl BK555) hb); replace BK564 := aM (kB (kl BK564) hb); replace HB := aM (bS (bl) hb); (try clear hb); (try clear ho0); obtain ⟨Ao94, co94, eo94⟩ := Kd.R_slice HO577.out; subst eo94) | (go_at_call 9; (with_reducible refine (mapmakerlaw14_lives.calls kj2  t579 _ A75.out).mono ?_); rintro e w95 ⟨rfl, hb⟩; replace HO561 := aM (rB (rl HO561) hb); replace HO567 := aM (Kd.N_below (by (with_reducible repeat (first | apply Kd.N_alloc | apply Kd.N_drewN | apply Kd.N_drew)); exact HO567.out) hb); replace HO570 := aM (Kd.N_below (by (with_reducible repeat (first | apply Kd.N_alloc | apply Kd.N_drewN | apply Kd.N_drew)); exact HO570.out) hb); replace HO573 := aM (Kd.N_below (by (with_reducible repeat (first | apply Kd.N_alloc | apply Kd.N_drewN | apply Kd.N_drew)); exact HO573.out) hb); replace HO577 := aM (rB (rl HO577) hb); replace BK555 := aM (kB (kl BK555) hb); replace BK564 := aM (kB (kl BK564) hb); replace HB := aM (bS (bl) hb); (try clear hb)))
          go_ret
          exact ⟨by first | rfl | (simp [errW_none, errW_some] <;> rfl) | (simp only [← hji26]; first | rfl | (simp [errW_none, errW_some] <;> rfl)) | (simp [*, errW_none, errW_some] <;> rfl), bl⟩
         ·rw [if_neg c74] at H
          have c74b0 : (t574 == 0) = false := beq_eq_false_iff_ne.mpr c74
          have c74b1 : (t574 != 0) = true := bne_iff_ne.mpr c74
          obtain rfl := Option.some.inj H
          cases hT
       ·rw [if_neg c28] at H
        exact absurd H (by simp)
      ·rw [if_neg c27] at H
       exact absurd H (by simp)
    ·rw [if_neg c18] at H
     have c18b0 : ((t559.length : Int) == (wrap64 ((wrap64 ((l0_0.length : Int) + (l0_1.length : Int))) + (l0_2.length : Int)))) = false := beq_eq_false_iff_ne.mpr c18
     have c18b1 : ((t559.length : Int) != (wrap64 ((wrap64 ((l0_0.length : Int) + (l0_1.length : Int))) + (l0_2.length : Int)))) = true := bne_iff_ne.mpr c18
     obtain rfl := Option.some.inj H
     cases hT
theorem mapmakerlaw14_DataRemoves.opens_0 : Opens Try.prog 26 k26 (fun x => wf26 x) := opens26
def mapmakerlaw14_DataRemoves.Pure : Prop := ∀ (x0 : S26) (a1 : Int), wf26 x0 → (Lit.int .u8 a1).wf = true → ∃ k, mapmakerlaw14_DataRemoves.f k x0.f0 x0.f1 x0.f2 a1 = some true
theorem mapmakerlaw14_DataRemoves.walk (P : mapmakerlaw14_DataRemoves.Pure) (w : World) (x0 : S26) (cs0 : Array Value) (hK0 : k26.K w x0 cs0.toList) (a1 : Int) (w0 : wf26 x0) (w1 : (Lit.int .u8 a1).wf = true) :
  Calls Try.prog 6 #[.agg cs0, .int .u8 a1] w fun e w' => e = .returned (.bool true) ∧ Below w.heap.size w w' := by
 obtain ⟨k, h⟩ := P x0 a1 w0 w1
 obtain ⟨A0_0, c0_0, A0_1, c0_1, A0_2, c0_2, hcs0, hc0_0, hr0_0, hc0_1, hr0_1, hc0_2, hr0_2⟩ := k26_open hK0
 obtain rfl : cs0 = #[.slice A0_0 x0.f0.length c0_0, .slice A0_1 x0.f1.length c0_1, .slice A0_2 x0.f2.length c0_2] := Array.ext' (by rw [hcs0])
 refine (mapmakerlaw14_DataRemoves.callsT k A0_0 c0_0 x0.f0 A0_1 c0_1 x0.f1 A0_2 c0_2 x0.f2 a1 true w hr0_0 hc0_0 hr0_1 hc0_1 hr0_2 hc0_2 h rfl).mono ?_
 rintro e w' ⟨rfl, hd⟩
 exact ⟨rfl, hd⟩
end Go.Proofs.Ytgenbepicnbecaa.PAll
