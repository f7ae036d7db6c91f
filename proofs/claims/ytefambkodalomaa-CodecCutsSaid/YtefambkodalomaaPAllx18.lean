-- out of a driver of this session's prover over the kit's print: Lean checks it
import Derived.Test.YtefambkodalomaaPAllx0
import Derived.Test.YtefambkodalomaaPAllx3
import Derived.Test.YtefambkodalomaaPAllx5
import Derived.Test.YtefambkodalomaaPAllx10
import Derived.Test.YtefambkodalomaaPAllx13
import Derived.Test.YtefambkodalomaaPAllx17
namespace Go.Proofs.Ytefambkodalomaa.PAll
open Go.Proofs.YtefambkodalomaaG Go.Shelf Go.Lib
open Go.RowKit Go.Proofs.YtefambkodalomaaW.PrintWords Go.Proofs.YtefambkodalomaaW.PrintLast Go.Proofs.YtefambkodalomaaW.PrintMore
attribute [local go_sem] max2_int min2_int max_two min_two max_three min_three max_four min_four   -- for this text's walks alone
set_option linter.unusedVariables false
set_option linter.unusedSimpArgs false
mutual
def mapmakerlaw16_CodecCuts.j0 : Nat → Int → ByteArray → Bool → List (S53) → List (S56) → List (S59) → Option (Bool)
 | 0, _, _, _, _, _, _ => none
 | k + 1, x1, x2, x29, x510000, x510001, x510002 => if x29 = true then ((mapmakerlaw16_lives.f k).bind fun t512 => (some t512)) else ((codec_PutData.f k x510000 x510001 x510002).bind fun t513 => (if t513.size + x2.size ≤ 9223372036854775807 then ((codec_GetData.f k (t513 ++ x2)).bind fun bt514 => (if bt514.2.2.2 = 5 then (if x1 ≥ 0 then (mapmakerlaw16_CodecCuts.j1 k x1 t513 (decide (x1 < (t513.size : Int)))) else (mapmakerlaw16_CodecCuts.j1 k x1 t513 false)) else (some false))) else (none)))
def mapmakerlaw16_CodecCuts.j1 : Nat → Int → ByteArray → Bool → Option (Bool)
 | 0, _, _, _ => none
 | k + 1, x1, x7, x49 => if x49 = true then (if 0 ≤ x1 then (if x1 ≤ (x7.size : Int) then ((codec_GetData.f k (x7.extract 0 (x1 : Int).toNat)).bind fun bt525 => (if bt525.2.2.2 = 3 then (if (bt525.1.length : Int) = 0 then (if (bt525.2.1.length : Int) = 0 then (if (bt525.2.2.1.length : Int) = 0 then ((mapmakerlaw16_lives.f k).bind fun t536 => (some t536)) else (some false)) else (some false)) else (some false)) else (some false))) else (none)) else (none)) else ((mapmakerlaw16_lives.f k).bind fun t537 => (some t537))
end
def mapmakerlaw16_CodecCuts.f (k : Nat) (l0_0 : List (S53)) (l0_1 : List (S56)) (l0_2 : List (S59)) (a1 : Int) (a2 : ByteArray) : Option (Bool) := (mapmakerlaw19_Few.f k l0_0 l0_1 l0_2).bind fun t510 => (if t510 = true then ((data_Check.f k l0_0 l0_1 l0_2).bind fun t511 => (if t511 = 0 then (if (a2.size : Int) = 0 then (mapmakerlaw16_CodecCuts.j0 k a1 a2 true l0_0 l0_1 l0_2) else (mapmakerlaw16_CodecCuts.j0 k a1 a2 (decide ((a2.size : Int) > 100)) l0_0 l0_1 l0_2)) else (mapmakerlaw16_CodecCuts.j0 k a1 a2 true l0_0 l0_1 l0_2))) else (mapmakerlaw16_CodecCuts.j0 k a1 a2 true l0_0 l0_1 l0_2))
theorem mapmakerlaw16_CodecCuts.mono_l : ∀ k, (∀ y0 y1 y2 y3 y4 y5, LeO (mapmakerlaw16_CodecCuts.j0 k y0 y1 y2 y3 y4 y5) (mapmakerlaw16_CodecCuts.j0 (k + 1) y0 y1 y2 y3 y4 y5)) ∧ (∀ y0 y1 y2, LeO (mapmakerlaw16_CodecCuts.j1 k y0 y1 y2) (mapmakerlaw16_CodecCuts.j1 (k + 1) y0 y1 y2))
 | 0 => ⟨fun _ _ _ _ _ _ r h => by simp [mapmakerlaw16_CodecCuts.j0] at h, fun _ _ _ r h => by simp [mapmakerlaw16_CodecCuts.j1] at h⟩
 | k + 1 => by
  obtain ⟨ih0, ih1⟩ := mapmakerlaw16_CodecCuts.mono_l k
  refine ⟨?_, ?_⟩
  ·intro y0 y1 y2 y3 y4 y5
   unfold mapmakerlaw16_CodecCuts.j0
   repeat' first
   | (with_reducible exact ih0 _ _ _ _ _ _)
   | (with_reducible exact ih1 _ _ _)
   | (with_reducible exact codec_GetData.mono _ _)
   | (with_reducible exact codec_PutData.mono _ _ _ _)
   | (with_reducible exact data_Check.mono _ _ _ _)
   | (with_reducible exact mapmakerlaw16_lives.mono _)
   | (with_reducible exact mapmakerlaw19_Few.mono _ _ _ _)
   | (with_reducible exact LeO.refl _)
   | (with_reducible exact LeO.none _)
   | (with_reducible refine LeO.ite ?_ ?_)
   | (with_reducible refine LeO.eB ?_ (fun _ => ?_))
   | (with_reducible refine LeO.bind ?_ (fun _ => ?_))
   | exact ih0 _ _ _ _ _ _
   | exact ih1 _ _ _
   | exact codec_GetData.mono _ _
   | exact codec_PutData.mono _ _ _ _
   | exact data_Check.mono _ _ _ _
   | exact mapmakerlaw16_lives.mono _
   | exact mapmakerlaw19_Few.mono _ _ _ _
   | exact LeO.none _
   | refine LeO.ite ?_ ?_
   | refine LeO.bind ?_ (fun _ => ?_)
  ·intro y0 y1 y2
   unfold mapmakerlaw16_CodecCuts.j1
   repeat' first
   | (with_reducible exact ih0 _ _ _ _ _ _)
   | (with_reducible exact ih1 _ _ _)
   | (with_reducible exact codec_GetData.mono _ _)
   | (with_reducible exact codec_PutData.mono _ _ _ _)
   | (with_reducible exact data_Check.mono _ _ _ _)
   | (with_reducible exact mapmakerlaw16_lives.mono _)
   | (with_reducible exact mapmakerlaw19_Few.mono _ _ _ _)
   | (with_reducible exact LeO.refl _)
   | (with_reducible exact LeO.none _)
   | (with_reducible refine LeO.ite ?_ ?_)
   | (with_reducible refine LeO.eB ?_ (fun _ => ?_))
   | (with_reducible refine LeO.bind ?_ (fun _ => ?_))
   | exact ih0 _ _ _ _ _ _
   | exact ih1 _ _ _
   | exact codec_GetData.mono _ _
   | exact codec_PutData.mono _ _ _ _
   | exact data_Check.mono _ _ _ _
   | exact mapmakerlaw16_lives.mono _
   | exact mapmakerlaw19_Few.mono _ _ _ _
   | exact LeO.none _
   | refine LeO.ite ?_ ?_
   | refine LeO.bind ?_ (fun _ => ?_)
theorem mapmakerlaw16_CodecCuts.mono : ∀ a0 a1 a2 a3 a4 k, LeO (mapmakerlaw16_CodecCuts.f k a0 a1 a2 a3 a4) (mapmakerlaw16_CodecCuts.f (k + 1) a0 a1 a2 a3 a4) := by
 intro a0 a1 a2 a3 a4 k; obtain ⟨ih0, ih1⟩ := mapmakerlaw16_CodecCuts.mono_l k; unfold mapmakerlaw16_CodecCuts.f
 repeat' first
   | (with_reducible exact ih0 _ _ _ _ _ _)
   | (with_reducible exact ih1 _ _ _)
   | (with_reducible exact codec_GetData.mono _ _)
   | (with_reducible exact codec_PutData.mono _ _ _ _)
   | (with_reducible exact data_Check.mono _ _ _ _)
   | (with_reducible exact mapmakerlaw16_lives.mono _)
   | (with_reducible exact mapmakerlaw19_Few.mono _ _ _ _)
   | (with_reducible exact LeO.refl _)
   | (with_reducible exact LeO.none _)
   | (with_reducible refine LeO.ite ?_ ?_)
   | (with_reducible refine LeO.eB ?_ (fun _ => ?_))
   | (with_reducible refine LeO.bind ?_ (fun _ => ?_))
   | exact ih0 _ _ _ _ _ _
   | exact ih1 _ _ _
   | exact codec_GetData.mono _ _
   | exact codec_PutData.mono _ _ _ _
   | exact data_Check.mono _ _ _ _
   | exact mapmakerlaw16_lives.mono _
   | exact mapmakerlaw19_Few.mono _ _ _ _
   | exact LeO.none _
   | refine LeO.ite ?_ ?_
   | refine LeO.bind ?_ (fun _ => ?_)
set_option maxHeartbeats 8000000 in
set_option maxRecDepth 100000 in
theorem mapmakerlaw16_CodecCuts.calls (k : Nat) (A0_0 : Option Addr) (c0_0 : Nat) (l0_0 : List (S53)) (A0_1 : Option Addr) (c0_1 : Nat) (l0_1 : List (S56)) (A0_2 : Option Addr) (c0_2 : Nat) (l0_2 : List (S59)) (a1 : Int) (a2 : ByteArray) (r : Bool) (w : World) (hr0_0 : Kd.C k53 w A0_0 l0_0.length l0_0) (hc0_0 : l0_0.length ≤ c0_0) (hr0_1 : Kd.C k56 w A0_1 l0_1.length l0_1) (hc0_1 : l0_1.length ≤ c0_1) (hr0_2 : Kd.C k59 w A0_2 l0_2.length l0_2) (hc0_2 : l0_2.length ≤ c0_2) (h : mapmakerlaw16_CodecCuts.f k l0_0 l0_1 l0_2 a1 a2 = some r) :
  Calls Try.prog 8 #[.agg #[.slice A0_0 l0_0.length c0_0, .slice A0_1 l0_1.length c0_1, .slice A0_2 l0_2.length c0_2], .int .i64 a1, .string a2] w fun e w' => e = .returned (.bool r) ∧ Below w.heap.size w w' := by
 have hu26 := Try.underlying26; have HR0_0 := aM hr0_0; have HC0_0 := aM hc0_0; clear hr0_0 hc0_0; have HR0_1 := aM hr0_1; have HC0_1 := aM hc0_1; clear hr0_1 hc0_1; have HR0_2 := aM hr0_2; have HC0_2 := aM hc0_2; clear hr0_2 hc0_2; have HB := aM (Below.refl w.heap.size w); have H : ((mapmakerlaw19_Few.f k l0_0 l0_1 l0_2).bind fun t510 => (if t510 = true then ((data_Check.f k l0_0 l0_1 l0_2).bind fun t511 => (if t511 = 0 then (if (a2.size : Int) = 0 then (mapmakerlaw16_CodecCuts.j0 k a1 a2 true l0_0 l0_1 l0_2) else (mapmakerlaw16_CodecCuts.j0 k a1 a2 (decide ((a2.size : Int) > 100)) l0_0 l0_1 l0_2)) else (mapmakerlaw16_CodecCuts.j0 k a1 a2 true l0_0 l0_1 l0_2))) else (mapmakerlaw16_CodecCuts.j0 k a1 a2 true l0_0 l0_1 l0_2))) = some r := h; clear h; have HC4 := aM H; clear H; go_enter Try.func8, Try.ntmps8
 go_upto_region 1 with (first | ((with_reducible refine gate_dst (N := 3) rfl ?_); (try (refine gate_guard (by rfl) ?_; dsimp only)); refine bx (N := 3) (cs := #[.slice A0_0 l0_0.length c0_0, .slice A0_1 l0_1.length c0_1, .slice A0_2 l0_2.length c0_2]) (t := 26) ?_; intro gb509 hg w5 hbox hb; have BK509 := aM (hbox); have GE509 := aM (gw (w := w) hg); replace HB := aM (bS (bl) hb); clear hb hbox hg))
 (try simp only [Act.put, sA, sB, sC])
 go_cut [29] (fun v29 wc => ∃ (kq : Nat) (x29_3 : Bool), v29 = .bool x29_3 ∧ Aside0 (mapmakerlaw16_CodecCuts.j0 kq a1 a2 x29_3 l0_0 l0_1 l0_2 = some r) ∧ Aside0 (kq ≤ k) ∧ Aside0 (wc.heap[gb509]? = some (.cells #[(.slice A0_0 l0_0.length c0_0), (.slice A0_1 l0_1.length c0_1), (.slice A0_2 l0_2.length c0_2)] 26 (0, 0))) ∧ Aside0 (Below w.heap.size w wc))
 case first =>
  have H := HC4.out; clear HC4; replace H := Option.bind_eq_some_iff.mp H; obtain ⟨t510, A60, H⟩ := H; (try dsimp only at H); have A6 := aM A60; clear A60
  by_cases c7 : t510 = true
  ·subst c7; have H1 : ((data_Check.f k l0_0 l0_1 l0_2).bind fun t511 => (if t511 = 0 then (if (a2.size : Int) = 0 then (mapmakerlaw16_CodecCuts.j0 k a1 a2 true l0_0 l0_1 l0_2) else (mapmakerlaw16_CodecCuts.j0 k a1 a2 (decide ((a2.size : Int) > 100)) l0_0 l0_1 l0_2)) else (mapmakerlaw16_CodecCuts.j0 k a1 a2 true l0_0 l0_1 l0_2))) = some r := by rw [if_pos rfl] at H; exact H
   clear H; have H := H1; clear H1; replace H := Option.bind_eq_some_iff.mp H; obtain ⟨t511, A80, H⟩ := H; (try dsimp only at H); have A8 := aM A80; clear A80
   by_cases c9 : t511 = 0
   ·rw [if_pos c9] at H; have c9b0 : (t511 == 0) = true := beq_iff_eq.mpr c9; have c9b1 : (t511 != 0) = false := bne_eq_false_iff_eq.mpr c9; clear c9
    (first | rw [c9b0] | (simp only [i64_w, i32_w]; rw [c9b0]) | skip)
    by_cases c10 : (a2.size : Int) = 0
    ·rw [if_pos c10] at H; have c10b0 : ((a2.size : Int) == 0) = true := beq_iff_eq.mpr c10; have c10b1 : ((a2.size : Int) != 0) = false := bne_eq_false_iff_eq.mpr c10; clear c10; have H' := aM H; clear H; have hz11 := bc3 BK509
     go_wp2_with (first | ((with_reducible refine gate_callee (f := 10) rfl ?_); refine gL (some 13) Try.func10 #[.agg #[.slice A0_0 l0_0.length c0_0, .slice A0_1 l0_1.length c0_1, .slice A0_2 l0_2.length c0_2]] ?_; (with_reducible refine (mapmakerlaw19_Few.calls k _ _ l0_0 _ _ l0_1 _ _ l0_2 true _ ?side1 ?side2 ?side3 ?side4 ?side5 ?side6 A6.out).mono ?_); (case side1 => exact cl HR0_0); (case side2 => exact HC0_0.out); (case side3 => exact cl HR0_1); (case side4 => exact HC0_1.out); (case side5 => exact cl HR0_2); (case side6 => exact HC0_2.out); rintro e w12 ⟨rfl, hb⟩; refine ⟨_, rfl, ?_⟩; replace BK509 := aM (kB (kl BK509) hb); replace HB := aM (bS (bl) hb); (try clear hb); have hz13 := bc3 BK509) | (go_at_call 23; (with_reducible refine (data_Check.calls k _ _ l0_0 _ _ l0_1 _ _ l0_2 t511 _ ?side1 ?side2 ?side3 ?side4 ?side5 ?side6 A8.out).mono ?_); (case side1 => exact cl HR0_0); (case side2 => exact HC0_0.out); (case side3 => exact cl HR0_1); (case side4 => exact HC0_1.out); (case side5 => exact cl HR0_2); (case side6 => exact HC0_2.out); rintro e w14 ⟨rfl, hb⟩; replace BK509 := aM (kB (kl BK509) hb); replace HB := aM (bS (bl) hb); (try clear hb)))
     go_meet
     case rel => exact ⟨_, (true), (by first | rfl | (simp; done) | (simp [*]; done)), H', ⟨by first | omega | exact Nat.le_refl _⟩, ⟨kl BK509⟩, ⟨bl⟩⟩
    ·rw [if_neg c10] at H; have c10b0 : ((a2.size : Int) == 0) = false := beq_eq_false_iff_ne.mpr c10; have c10b1 : ((a2.size : Int) != 0) = true := bne_iff_ne.mpr c10; have H' := aM H; clear H; have hz15 := bc3 BK509
     go_wp2_with (first | ((with_reducible refine gate_callee (f := 10) rfl ?_); refine gL (some 13) Try.func10 #[.agg #[.slice A0_0 l0_0.length c0_0, .slice A0_1 l0_1.length c0_1, .slice A0_2 l0_2.length c0_2]] ?_; (with_reducible refine (mapmakerlaw19_Few.calls k _ _ l0_0 _ _ l0_1 _ _ l0_2 true _ ?side1 ?side2 ?side3 ?side4 ?side5 ?side6 A6.out).mono ?_); (case side1 => exact cl HR0_0); (case side2 => exact HC0_0.out); (case side3 => exact cl HR0_1); (case side4 => exact HC0_1.out); (case side5 => exact cl HR0_2); (case side6 => exact HC0_2.out); rintro e w16 ⟨rfl, hb⟩; refine ⟨_, rfl, ?_⟩; replace BK509 := aM (kB (kl BK509) hb); replace HB := aM (bS (bl) hb); (try clear hb); have hz17 := bc3 BK509) | (go_at_call 23; (with_reducible refine (data_Check.calls k _ _ l0_0 _ _ l0_1 _ _ l0_2 t511 _ ?side1 ?side2 ?side3 ?side4 ?side5 ?side6 A8.out).mono ?_); (case side1 => exact cl HR0_0); (case side2 => exact HC0_0.out); (case side3 => exact cl HR0_1); (case side4 => exact HC0_1.out); (case side5 => exact cl HR0_2); (case side6 => exact HC0_2.out); rintro e w18 ⟨rfl, hb⟩; replace BK509 := aM (kB (kl BK509) hb); replace HB := aM (bS (bl) hb); (try clear hb)))
     go_meet
     case rel => exact ⟨_, (decide ((a2.size : Int) > 100)), (by first | rfl | (simp; done) | (simp [*]; done)), H', ⟨by first | omega | exact Nat.le_refl _⟩, ⟨kl BK509⟩, ⟨bl⟩⟩
   ·rw [if_neg c9] at H; have c9b0 : (t511 == 0) = false := beq_eq_false_iff_ne.mpr c9; have c9b1 : (t511 != 0) = true := bne_iff_ne.mpr c9
    (first | rw [c9b0] | (simp only [i64_w, i32_w]; rw [c9b0]) | skip)
    have H' := aM H; clear H; have hz19 := bc3 BK509
    go_wp2_with (first | ((with_reducible refine gate_callee (f := 10) rfl ?_); refine gL (some 13) Try.func10 #[.agg #[.slice A0_0 l0_0.length c0_0, .slice A0_1 l0_1.length c0_1, .slice A0_2 l0_2.length c0_2]] ?_; (with_reducible refine (mapmakerlaw19_Few.calls k _ _ l0_0 _ _ l0_1 _ _ l0_2 true _ ?side1 ?side2 ?side3 ?side4 ?side5 ?side6 A6.out).mono ?_); (case side1 => exact cl HR0_0); (case side2 => exact HC0_0.out); (case side3 => exact cl HR0_1); (case side4 => exact HC0_1.out); (case side5 => exact cl HR0_2); (case side6 => exact HC0_2.out); rintro e w20 ⟨rfl, hb⟩; refine ⟨_, rfl, ?_⟩; replace BK509 := aM (kB (kl BK509) hb); replace HB := aM (bS (bl) hb); (try clear hb); have hz21 := bc3 BK509) | (go_at_call 23; (with_reducible refine (data_Check.calls k _ _ l0_0 _ _ l0_1 _ _ l0_2 t511 _ ?side1 ?side2 ?side3 ?side4 ?side5 ?side6 A8.out).mono ?_); (case side1 => exact cl HR0_0); (case side2 => exact HC0_0.out); (case side3 => exact cl HR0_1); (case side4 => exact HC0_1.out); (case side5 => exact cl HR0_2); (case side6 => exact HC0_2.out); rintro e w22 ⟨rfl, hb⟩; replace BK509 := aM (kB (kl BK509) hb); replace HB := aM (bS (bl) hb); (try clear hb)))
    go_meet
    case rel => exact ⟨_, (true), (by first | rfl | (simp; done) | (simp [*]; done)), H', ⟨by first | omega | exact Nat.le_refl _⟩, ⟨kl BK509⟩, ⟨bl⟩⟩
  ·replace c7 := Bool.eq_false_iff.mpr c7; subst c7; have H1 : (mapmakerlaw16_CodecCuts.j0 k a1 a2 true l0_0 l0_1 l0_2) = some r := by rw [if_neg (show ¬ (false = true) by decide)] at H; exact H
   clear H; have H := H1; clear H1; have H' := aM H; clear H; have hz23 := bc3 BK509
   go_wp2_with (first | ((with_reducible refine gate_callee (f := 10) rfl ?_); refine gL (some 13) Try.func10 #[.agg #[.slice A0_0 l0_0.length c0_0, .slice A0_1 l0_1.length c0_1, .slice A0_2 l0_2.length c0_2]] ?_; (with_reducible refine (mapmakerlaw19_Few.calls k _ _ l0_0 _ _ l0_1 _ _ l0_2 false _ ?side1 ?side2 ?side3 ?side4 ?side5 ?side6 A6.out).mono ?_); (case side1 => exact cl HR0_0); (case side2 => exact HC0_0.out); (case side3 => exact cl HR0_1); (case side4 => exact HC0_1.out); (case side5 => exact cl HR0_2); (case side6 => exact HC0_2.out); rintro e w24 ⟨rfl, hb⟩; refine ⟨_, rfl, ?_⟩; replace BK509 := aM (kB (kl BK509) hb); replace HB := aM (bS (bl) hb); (try clear hb)))
   go_meet
   case rel => exact ⟨_, (true), (by first | rfl | (simp; done) | (simp [*]; done)), H', ⟨by first | omega | exact Nat.le_refl _⟩, ⟨kl BK509⟩, ⟨bl⟩⟩
 case rest =>
  clear HC4; (try clear c7); (try clear c9); (try clear c9b0); (try clear c9b1); (try clear c10); (try clear c10b0); (try clear c10b1); (try clear hz11); (try clear hz13); (try clear hz15); (try clear hz17); (try clear hz19); (try clear hz21); (try clear hz23); obtain ⟨kq, x29_3, rfl, HA, HJ3, BK509, HB⟩ := hcut
  cases kq with
  | zero => exact absurd HA.out (by simp [mapmakerlaw16_CodecCuts.j0])
  | succ kj3 =>
   have H := HA.out; clear HA; simp only [mapmakerlaw16_CodecCuts.j0] at H
   by_cases c25 : x29_3 = true
   ·subst c25; have H1 : ((mapmakerlaw16_lives.f kj3).bind fun t512 => (some t512)) = some r := by rw [if_pos rfl] at H; exact H
    clear H; have H := H1; clear H1; replace H := Option.bind_eq_some_iff.mp H; obtain ⟨t512, A260, H⟩ := H; (try dsimp only at H); have A26 := aM A260; clear A260; obtain rfl := Option.some.inj H
    go_wp2_with (first | ((with_reducible refine gate_callee (f := 11) rfl ?_); refine gL (some 30) Try.func11 #[] ?_; (with_reducible refine (mapmakerlaw16_lives.calls kj3  t512 _ A26.out).mono ?_); rintro e w27 ⟨rfl, hb⟩; refine ⟨_, rfl, ?_⟩; replace HB := aM (bS (bl) hb); clear BK509; (try clear hb)))
    go_ret; exact ⟨by first | rfl | (simp [errW_none, errW_some] <;> rfl) | (simp [*, errW_none, errW_some] <;> rfl), bl⟩
   ·replace c25 := Bool.eq_false_iff.mpr c25; subst c25; have H1 : ((codec_PutData.f kj3 l0_0 l0_1 l0_2).bind fun t513 => (if t513.size + a2.size ≤ 9223372036854775807 then ((codec_GetData.f kj3 (t513 ++ a2)).bind fun bt514 => (if bt514.2.2.2 = 5 then (if a1 ≥ 0 then (mapmakerlaw16_CodecCuts.j1 kj3 a1 t513 (decide (a1 < (t513.size : Int)))) else (mapmakerlaw16_CodecCuts.j1 kj3 a1 t513 false)) else (some false))) else (none))) = some r := by rw [if_neg (show ¬ (false = true) by decide)] at H; exact H
    clear H; have H := H1; clear H1; replace H := Option.bind_eq_some_iff.mp H; obtain ⟨t513, A280, H⟩ := H; (try dsimp only at H); have A28 := aM A280; clear A280
    by_cases c29 : t513.size + a2.size ≤ 9223372036854775807
    ·rw [if_pos c29] at H; have c29b0 := eq_true c29; have c29b1 : decide (t513.size + a2.size ≤ 9223372036854775807) = true := decide_eq_true c29
     try have c29b2 : (9223372036854775807 < t513.size + a2.size) = False := eq_false (Nat.not_lt.2 c29)
     replace H := Option.bind_eq_some_iff.mp H; obtain ⟨⟨t514, t517, t520, t523⟩, A300, H⟩ := H; replace H : (if t523 = 5 then (if a1 ≥ 0 then (mapmakerlaw16_CodecCuts.j1 kj3 a1 t513 (decide (a1 < (t513.size : Int)))) else (mapmakerlaw16_CodecCuts.j1 kj3 a1 t513 false)) else (some false)) = some r := H; have A30 := aM A300; clear A300
     by_cases c31 : t523 = 5
     ·rw [if_pos c31] at H; have c31b0 : (t523 == 5) = true := beq_iff_eq.mpr c31; have c31b1 : (t523 != 5) = false := bne_eq_false_iff_eq.mpr c31; clear c31; have HC32 := aM H; clear H; have hz33 := bc3 BK509
      go_upto_region 7 with (first | ((with_reducible refine gate_callee (f := 12) rfl ?_); refine gL (some 32) Try.func12 #[.agg #[.slice A0_0 l0_0.length c0_0, .slice A0_1 l0_1.length c0_1, .slice A0_2 l0_2.length c0_2]] ?_; (with_reducible refine (codec_PutData.calls kj3 _ _ l0_0 _ _ l0_1 _ _ l0_2 t513 _ ?side1 ?side2 ?side3 ?side4 ?side5 ?side6 A28.out).mono ?_); (case side1 => exact cl HR0_0); (case side2 => exact HC0_0.out); (case side3 => exact cl HR0_1); (case side4 => exact HC0_1.out); (case side5 => exact cl HR0_2); (case side6 => exact HC0_2.out); rintro e w34 ⟨rfl, hb⟩; refine ⟨_, rfl, ?_⟩; replace BK509 := aM (kB (kl BK509) hb); replace HB := aM (bS (bl) hb); (try clear hb)) | ((with_reducible refine gate_callee (f := 14) rfl ?_); refine gL (some 37) Try.func14 #[.string (t513 ++ a2)] ?_; (with_reducible refine (codec_GetData.calls kj3 (t513 ++ a2) t514 t517 t520 t523 _ A30.out).mono ?_); rintro e w35 ⟨v515, v518, v521, rfl, ho0, ho1, ho2, hb⟩; refine ⟨_, rfl, ?_⟩; have HO516 := aM (Kd.S_lower ho0 (below_size (bl))); have HO519 := aM (Kd.S_lower ho1 (below_size (bl))); have HO522 := aM (Kd.S_lower ho2 (below_size (bl))); replace BK509 := aM (kB (kl BK509) hb); replace HB := aM (bS (bl) hb); (try clear hb); (try clear ho0); (try clear ho1); (try clear ho2)) | ((with_reducible refine gate_dst (N := 8) rfl ?_); (try (refine gate_guard (by rfl) ?_; dsimp only)); refine bx (N := 8) (cs := #[.slice none 0 0, .slice none 0 0, .slice none 0 0]) (t := 26) ?_; intro gb524 hg w36 hbox hb; have BK524 := aM (hbox); have GE524 := aM (gw (w := w) hg); obtain ⟨NB509_524, NB524_509⟩ := n2 BK509 hg; replace HO516 := aM (Kd.S_below (by (with_reducible repeat (first | apply Kd.S_alloc | apply Kd.S_drewN | apply Kd.S_drew)); exact HO516.out) hb); replace HO519 := aM (Kd.S_below (by (with_reducible repeat (first | apply Kd.S_alloc | apply Kd.S_drewN | apply Kd.S_drew)); exact HO519.out) hb); replace HO522 := aM (Kd.S_below (by (with_reducible repeat (first | apply Kd.S_alloc | apply Kd.S_drewN | apply Kd.S_drew)); exact HO522.out) hb); replace BK509 := aM (kB (kl BK509) hb); replace HB := aM (bS (bl) hb); clear hb hbox hg; obtain ⟨Ao37, co37, eo37⟩ := Kd.S_slice HO516.out; subst eo37; have hn38 := nn NB524_509; have hz39 := bc3 BK524; obtain ⟨Ao40, co40, eo40⟩ := Kd.S_slice HO519.out; subst eo40; obtain ⟨Ao41, co41, eo41⟩ := Kd.S_slice HO522.out; subst eo41))
      (try simp only [Act.put, sA, sB, sC])
      go_cut [49] (fun v49 wc => ∃ (kq : Nat) (x49_31 : Bool), v49 = .bool x49_31 ∧ Aside0 (mapmakerlaw16_CodecCuts.j1 kq a1 t513 x49_31 = some r) ∧ Aside0 (kq ≤ kj3) ∧ Aside0 (Below w.heap.size w wc))
      case first =>
       have H := HC32.out; clear HC32
       by_cases c42 : a1 ≥ 0
       ·rw [if_pos c42] at H; have c42b0 : decide (0 ≤ a1) = true := decide_eq_true c42; clear c42
        (first | rw [c42b0] | (simp only [i64_w, i32_w]; rw [c42b0]) | skip)
        have H' := aM H; clear H
        go_wp2
        go_meet
        case rel => exact ⟨_, (decide (a1 < (t513.size : Int))), (by first | rfl | (simp; done) | (simp [*]; done)), H', ⟨by have := HJ3.out; first | omega | exact Nat.le_refl _⟩, ⟨bl⟩⟩
       ·rw [if_neg c42] at H; have c42b0 : decide (0 ≤ a1) = false := decide_eq_false c42; clear c42
        (first | rw [c42b0] | (simp only [i64_w, i32_w]; rw [c42b0]) | skip)
        have H' := aM H; clear H
        go_wp2
        go_meet
        case rel => exact ⟨_, (false), (by first | rfl | (simp; done) | (simp [*]; done)), H', ⟨by have := HJ3.out; first | omega | exact Nat.le_refl _⟩, ⟨bl⟩⟩
      case rest =>
       clear HC32; (try clear c7); (try clear c9); (try clear c9b0); (try clear c9b1); (try clear c10); (try clear c10b0); (try clear c10b1); (try clear c25); (try clear c29); (try clear c29b0); (try clear c29b1); (try clear c29b2); (try clear c31); (try clear c31b0); (try clear c31b1); (try clear c42); (try clear c42b0); (try clear hz11); (try clear hz13); (try clear hz15); (try clear hz17); (try clear hz19); (try clear hz21); (try clear hz23); (try clear hz33); (try clear hz39); obtain ⟨kq, x49_31, rfl, HA, HJ31, HB⟩ := hcut
       cases kq with
       | zero => exact absurd HA.out (by simp [mapmakerlaw16_CodecCuts.j1])
       | succ kj31 =>
        have H := HA.out; clear HA; simp only [mapmakerlaw16_CodecCuts.j1] at H
        by_cases c43 : x49_31 = true
        ·subst c43; have H1 : (if 0 ≤ a1 then (if a1 ≤ (t513.size : Int) then ((codec_GetData.f kj31 (t513.extract 0 (a1 : Int).toNat)).bind fun bt525 => (if bt525.2.2.2 = 3 then (if (bt525.1.length : Int) = 0 then (if (bt525.2.1.length : Int) = 0 then (if (bt525.2.2.1.length : Int) = 0 then ((mapmakerlaw16_lives.f kj31).bind fun t536 => (some t536)) else (some false)) else (some false)) else (some false)) else (some false))) else (none)) else (none)) = some r := by rw [if_pos rfl] at H; exact H
         clear H; have H := H1; clear H1
         by_cases c44 : 0 ≤ a1
         ·rw [if_pos c44] at H; have c44b0 := eq_true c44; have c44b1 : decide (0 ≤ a1) = true := decide_eq_true c44; clear c44
          by_cases c45 : a1 ≤ (t513.size : Int)
          ·rw [if_pos c45] at H; have c45b0 := eq_true c45; have c45b1 : decide (a1 ≤ (t513.size : Int)) = true := decide_eq_true c45; clear c45; replace H := Option.bind_eq_some_iff.mp H; obtain ⟨⟨t525, t528, t531, t534⟩, A460, H⟩ := H; replace H : (if t534 = 3 then (if (t525.length : Int) = 0 then (if (t528.length : Int) = 0 then (if (t531.length : Int) = 0 then ((mapmakerlaw16_lives.f kj31).bind fun t536 => (some t536)) else (some false)) else (some false)) else (some false)) else (some false)) = some r := H; have A46 := aM A460; clear A460
           by_cases c47 : t534 = 3
           ·rw [if_pos c47] at H; have c47b0 : (t534 == 3) = true := beq_iff_eq.mpr c47; have c47b1 : (t534 != 3) = false := bne_eq_false_iff_eq.mpr c47; clear c47
            by_cases c48 : (t525.length : Int) = 0
            ·rw [if_pos c48] at H; have c48b0 : ((t525.length : Int) == 0) = true := beq_iff_eq.mpr c48; have c48b1 : ((t525.length : Int) != 0) = false := bne_eq_false_iff_eq.mpr c48; clear c48
             by_cases c49 : (t528.length : Int) = 0
             ·rw [if_pos c49] at H; have c49b0 : ((t528.length : Int) == 0) = true := beq_iff_eq.mpr c49; have c49b1 : ((t528.length : Int) != 0) = false := bne_eq_false_iff_eq.mpr c49; clear c49
              by_cases c50 : (t531.length : Int) = 0
              ·rw [if_pos c50] at H; have c50b0 : ((t531.length : Int) == 0) = true := beq_iff_eq.mpr c50; have c50b1 : ((t531.length : Int) != 0) = false := bne_eq_false_iff_eq.mpr c50; clear c50; replace H := Option.bind_eq_some_iff.mp H; obtain ⟨t536, A510, H⟩ := H; (try dsimp only at H); have A51 := aM A510; clear A510; obtain rfl := Option.some.inj H
               go_wp2_with (first | ((with_reducible refine gate_callee (f := 14) rfl ?_); refine gL (some 54) Try.func14 #[.string (t513.extract 0 (a1 : Int).toNat)] ?_; (with_reducible refine (codec_GetData.calls kj31 (t513.extract 0 (a1 : Int).toNat) t525 t528 t531 t534 _ A46.out).mono ?_); rintro e w52 ⟨v526, v529, v532, rfl, ho0, ho1, ho2, hb⟩; refine ⟨_, rfl, ?_⟩; have HO527 := aM (Kd.S_lower ho0 (below_size (bl))); have HO530 := aM (Kd.S_lower ho1 (below_size (bl))); have HO533 := aM (Kd.S_lower ho2 (below_size (bl))); replace HB := aM (bS (bl) hb); (try clear hb); (try clear ho0); (try clear ho1); (try clear ho2)) | ((with_reducible refine gate_dst (N := 10) rfl ?_); (try (refine gate_guard (by rfl) ?_; dsimp only)); refine bx (N := 10) (cs := #[.slice none 0 0, .slice none 0 0, .slice none 0 0]) (t := 26) ?_; intro gb535 hg w53 hbox hb; have BK535 := aM (hbox); have GE535 := aM (gw (w := w) hg); replace HO527 := aM (Kd.S_below (by (with_reducible repeat (first | apply Kd.S_alloc | apply Kd.S_drewN | apply Kd.S_drew)); exact HO527.out) hb); replace HO530 := aM (Kd.S_below (by (with_reducible repeat (first | apply Kd.S_alloc | apply Kd.S_drewN | apply Kd.S_drew)); exact HO530.out) hb); replace HO533 := aM (Kd.S_below (by (with_reducible repeat (first | apply Kd.S_alloc | apply Kd.S_drewN | apply Kd.S_drew)); exact HO533.out) hb); replace HB := aM (bS (bl) hb); clear hb hbox hg; obtain ⟨Ao54, co54, eo54⟩ := Kd.S_slice HO527.out; subst eo54; have hz55 := bc3 BK535; obtain ⟨Ao56, co56, eo56⟩ := Kd.S_slice HO530.out; subst eo56; obtain ⟨Ao57, co57, eo57⟩ := Kd.S_slice HO533.out; subst eo57) | ((with_reducible refine gate_callee (f := 11) rfl ?_); refine gL (some 77) Try.func11 #[] ?_; (with_reducible refine (mapmakerlaw16_lives.calls kj31  t536 _ A51.out).mono ?_); rintro e w58 ⟨rfl, hb⟩; refine ⟨_, rfl, ?_⟩; replace HO527 := aM (Kd.S_below (by (with_reducible repeat (first | apply Kd.S_alloc | apply Kd.S_drewN | apply Kd.S_drew)); exact (Kd.S_mono (sf1 (sf1 (sf1 (st HO527.out BK535)))) (fun _ h_ => h_.1))) hb); replace HO530 := aM (Kd.S_below (by (with_reducible repeat (first | apply Kd.S_alloc | apply Kd.S_drewN | apply Kd.S_drew)); exact (Kd.S_mono (sf1 (sf1 (sf1 (st HO530.out BK535)))) (fun _ h_ => h_.1))) hb); replace HO533 := aM (Kd.S_below (by (with_reducible repeat (first | apply Kd.S_alloc | apply Kd.S_drewN | apply Kd.S_drew)); exact (Kd.S_mono (sf1 (sf1 (sf1 (st HO533.out BK535)))) (fun _ h_ => h_.1))) hb); replace BK535 := aM (kB (g := gb535) (o := .cells #[.slice Ao54 t525.length co54, .slice Ao56 t528.length co56, .slice Ao57 t531.length co57] 26 (0, 0)) (bk BK535) hb); replace HB := aM (bS (bl) hb); (try clear hb)))
               go_ret; exact ⟨by first | rfl | (simp [errW_none, errW_some] <;> rfl) | (simp [*, errW_none, errW_some] <;> rfl), bl⟩
              ·rw [if_neg c50] at H; have c50b0 : ((t531.length : Int) == 0) = false := beq_eq_false_iff_ne.mpr c50; have c50b1 : ((t531.length : Int) != 0) = true := bne_iff_ne.mpr c50; have c50b2 : ¬ (t531 = []) := fun h_ => c50 (by rw [h_]; rfl)
               obtain rfl := Option.some.inj H
               go_wp2_with (first | ((with_reducible refine gate_callee (f := 14) rfl ?_); refine gL (some 54) Try.func14 #[.string (t513.extract 0 (a1 : Int).toNat)] ?_; (with_reducible refine (codec_GetData.calls kj31 (t513.extract 0 (a1 : Int).toNat) t525 t528 t531 t534 _ A46.out).mono ?_); rintro e w59 ⟨v526, v529, v532, rfl, ho0, ho1, ho2, hb⟩; refine ⟨_, rfl, ?_⟩; have HO527 := aM (Kd.S_lower ho0 (below_size (bl))); have HO530 := aM (Kd.S_lower ho1 (below_size (bl))); have HO533 := aM (Kd.S_lower ho2 (below_size (bl))); replace HB := aM (bS (bl) hb); (try clear hb); (try clear ho0); (try clear ho1); (try clear ho2)) | ((with_reducible refine gate_dst (N := 10) rfl ?_); (try (refine gate_guard (by rfl) ?_; dsimp only)); refine bx (N := 10) (cs := #[.slice none 0 0, .slice none 0 0, .slice none 0 0]) (t := 26) ?_; intro gb535 hg w60 hbox hb; have BK535 := aM (hbox); have GE535 := aM (gw (w := w) hg); replace HO527 := aM (Kd.S_below (by (with_reducible repeat (first | apply Kd.S_alloc | apply Kd.S_drewN | apply Kd.S_drew)); exact HO527.out) hb); replace HO530 := aM (Kd.S_below (by (with_reducible repeat (first | apply Kd.S_alloc | apply Kd.S_drewN | apply Kd.S_drew)); exact HO530.out) hb); replace HO533 := aM (Kd.S_below (by (with_reducible repeat (first | apply Kd.S_alloc | apply Kd.S_drewN | apply Kd.S_drew)); exact HO533.out) hb); replace HB := aM (bS (bl) hb); clear hb hbox hg; obtain ⟨Ao61, co61, eo61⟩ := Kd.S_slice HO527.out; subst eo61; have hz62 := bc3 BK535; obtain ⟨Ao63, co63, eo63⟩ := Kd.S_slice HO530.out; subst eo63; obtain ⟨Ao64, co64, eo64⟩ := Kd.S_slice HO533.out; subst eo64))
               go_ret; exact ⟨by first | rfl | (simp [errW_none, errW_some] <;> rfl) | (simp [*, errW_none, errW_some] <;> rfl), bl⟩
             ·rw [if_neg c49] at H; have c49b0 : ((t528.length : Int) == 0) = false := beq_eq_false_iff_ne.mpr c49; have c49b1 : ((t528.length : Int) != 0) = true := bne_iff_ne.mpr c49; have c49b2 : ¬ (t528 = []) := fun h_ => c49 (by rw [h_]; rfl)
              obtain rfl := Option.some.inj H
              go_wp2_with (first | ((with_reducible refine gate_callee (f := 14) rfl ?_); refine gL (some 54) Try.func14 #[.string (t513.extract 0 (a1 : Int).toNat)] ?_; (with_reducible refine (codec_GetData.calls kj31 (t513.extract 0 (a1 : Int).toNat) t525 t528 t531 t534 _ A46.out).mono ?_); rintro e w65 ⟨v526, v529, v532, rfl, ho0, ho1, ho2, hb⟩; refine ⟨_, rfl, ?_⟩; have HO527 := aM (Kd.S_lower ho0 (below_size (bl))); have HO530 := aM (Kd.S_lower ho1 (below_size (bl))); have HO533 := aM (Kd.S_lower ho2 (below_size (bl))); replace HB := aM (bS (bl) hb); (try clear hb); (try clear ho0); (try clear ho1); (try clear ho2)) | ((with_reducible refine gate_dst (N := 10) rfl ?_); (try (refine gate_guard (by rfl) ?_; dsimp only)); refine bx (N := 10) (cs := #[.slice none 0 0, .slice none 0 0, .slice none 0 0]) (t := 26) ?_; intro gb535 hg w66 hbox hb; have BK535 := aM (hbox); have GE535 := aM (gw (w := w) hg); replace HO527 := aM (Kd.S_below (by (with_reducible repeat (first | apply Kd.S_alloc | apply Kd.S_drewN | apply Kd.S_drew)); exact HO527.out) hb); replace HO530 := aM (Kd.S_below (by (with_reducible repeat (first | apply Kd.S_alloc | apply Kd.S_drewN | apply Kd.S_drew)); exact HO530.out) hb); replace HO533 := aM (Kd.S_below (by (with_reducible repeat (first | apply Kd.S_alloc | apply Kd.S_drewN | apply Kd.S_drew)); exact HO533.out) hb); replace HB := aM (bS (bl) hb); clear hb hbox hg; obtain ⟨Ao67, co67, eo67⟩ := Kd.S_slice HO527.out; subst eo67; have hz68 := bc3 BK535; obtain ⟨Ao69, co69, eo69⟩ := Kd.S_slice HO530.out; subst eo69; obtain ⟨Ao70, co70, eo70⟩ := Kd.S_slice HO533.out; subst eo70))
              go_ret; exact ⟨by first | rfl | (simp [errW_none, errW_some] <;> rfl) | (simp [*, errW_none, errW_some] <;> rfl), bl⟩
            ·rw [if_neg c48] at H; have c48b0 : ((t525.length : Int) == 0) = false := beq_eq_false_iff_ne.mpr c48; have c48b1 : ((t525.length : Int) != 0) = true := bne_iff_ne.mpr c48; have c48b2 : ¬ (t525 = []) := fun h_ => c48 (by rw [h_]; rfl)
             obtain rfl := Option.some.inj H
             go_wp2_with (first | ((with_reducible refine gate_callee (f := 14) rfl ?_); refine gL (some 54) Try.func14 #[.string (t513.extract 0 (a1 : Int).toNat)] ?_; (with_reducible refine (codec_GetData.calls kj31 (t513.extract 0 (a1 : Int).toNat) t525 t528 t531 t534 _ A46.out).mono ?_); rintro e w71 ⟨v526, v529, v532, rfl, ho0, ho1, ho2, hb⟩; refine ⟨_, rfl, ?_⟩; have HO527 := aM (Kd.S_lower ho0 (below_size (bl))); have HO530 := aM (Kd.S_lower ho1 (below_size (bl))); have HO533 := aM (Kd.S_lower ho2 (below_size (bl))); replace HB := aM (bS (bl) hb); (try clear hb); (try clear ho0); (try clear ho1); (try clear ho2)) | ((with_reducible refine gate_dst (N := 10) rfl ?_); (try (refine gate_guard (by rfl) ?_; dsimp only)); refine bx (N := 10) (cs := #[.slice none 0 0, .slice none 0 0, .slice none 0 0]) (t := 26) ?_; intro gb535 hg w72 hbox hb; have BK535 := aM (hbox); have GE535 := aM (gw (w := w) hg); replace HO527 := aM (Kd.S_below (by (with_reducible repeat (first | apply Kd.S_alloc | apply Kd.S_drewN | apply Kd.S_drew)); exact HO527.out) hb); replace HO530 := aM (Kd.S_below (by (with_reducible repeat (first | apply Kd.S_alloc | apply Kd.S_drewN | apply Kd.S_drew)); exact HO530.out) hb); replace HO533 := aM (Kd.S_below (by (with_reducible repeat (first | apply Kd.S_alloc | apply Kd.S_drewN | apply Kd.S_drew)); exact HO533.out) hb); replace HB := aM (bS (bl) hb); clear hb hbox hg; obtain ⟨Ao73, co73, eo73⟩ := Kd.S_slice HO527.out; subst eo73; have hz74 := bc3 BK535; obtain ⟨Ao75, co75, eo75⟩ := Kd.S_slice HO530.out; subst eo75; obtain ⟨Ao76, co76, eo76⟩ := Kd.S_slice HO533.out; subst eo76))
             go_ret; exact ⟨by first | rfl | (simp [errW_none, errW_some] <;> rfl) | (simp [*, errW_none, errW_some] <;> rfl), bl⟩
           ·rw [if_neg c47] at H; have c47b0 : (t534 == 3) = false := beq_eq_false_iff_ne.mpr c47; have c47b1 : (t534 != 3) = true := bne_iff_ne.mpr c47; obtain rfl := Option.some.inj H
            go_wp2_with (first | ((with_reducible refine gate_callee (f := 14) rfl ?_); refine gL (some 54) Try.func14 #[.string (t513.extract 0 (a1 : Int).toNat)] ?_; (with_reducible refine (codec_GetData.calls kj31 (t513.extract 0 (a1 : Int).toNat) t525 t528 t531 t534 _ A46.out).mono ?_); rintro e w77 ⟨v526, v529, v532, rfl, ho0, ho1, ho2, hb⟩; refine ⟨_, rfl, ?_⟩; have HO527 := aM (Kd.S_lower ho0 (below_size (bl))); have HO530 := aM (Kd.S_lower ho1 (below_size (bl))); have HO533 := aM (Kd.S_lower ho2 (below_size (bl))); replace HB := aM (bS (bl) hb); (try clear hb); (try clear ho0); (try clear ho1); (try clear ho2)) | ((with_reducible refine gate_dst (N := 10) rfl ?_); (try (refine gate_guard (by rfl) ?_; dsimp only)); refine bx (N := 10) (cs := #[.slice none 0 0, .slice none 0 0, .slice none 0 0]) (t := 26) ?_; intro gb535 hg w78 hbox hb; have BK535 := aM (hbox); have GE535 := aM (gw (w := w) hg); replace HO527 := aM (Kd.S_below (by (with_reducible repeat (first | apply Kd.S_alloc | apply Kd.S_drewN | apply Kd.S_drew)); exact HO527.out) hb); replace HO530 := aM (Kd.S_below (by (with_reducible repeat (first | apply Kd.S_alloc | apply Kd.S_drewN | apply Kd.S_drew)); exact HO530.out) hb); replace HO533 := aM (Kd.S_below (by (with_reducible repeat (first | apply Kd.S_alloc | apply Kd.S_drewN | apply Kd.S_drew)); exact HO533.out) hb); replace HB := aM (bS (bl) hb); clear hb hbox hg; obtain ⟨Ao79, co79, eo79⟩ := Kd.S_slice HO527.out; subst eo79; have hz80 := bc3 BK535; obtain ⟨Ao81, co81, eo81⟩ := Kd.S_slice HO530.out; subst eo81; obtain ⟨Ao82, co82, eo82⟩ := Kd.S_slice HO533.out; subst eo82))
            go_ret; exact ⟨by first | rfl | (simp [errW_none, errW_some] <;> rfl) | (simp [*, errW_none, errW_some] <;> rfl), bl⟩
          ·rw [if_neg c45] at H; exact absurd H (by simp)
         ·rw [if_neg c44] at H; exact absurd H (by simp)
        ·replace c43 := Bool.eq_false_iff.mpr c43; subst c43; have H1 : ((mapmakerlaw16_lives.f kj31).bind fun t537 => (some t537)) = some r := by rw [if_neg (show ¬ (false = true) by decide)] at H; exact H
         clear H; have H := H1; clear H1; replace H := Option.bind_eq_some_iff.mp H; obtain ⟨t537, A830, H⟩ := H; (try dsimp only at H); have A83 := aM A830; clear A830; obtain rfl := Option.some.inj H
         go_wp2_with (first | ((with_reducible refine gate_callee (f := 11) rfl ?_); refine gL (some 77) Try.func11 #[] ?_; (with_reducible refine (mapmakerlaw16_lives.calls kj31  t537 _ A83.out).mono ?_); rintro e w84 ⟨rfl, hb⟩; refine ⟨_, rfl, ?_⟩; replace HB := aM (bS (bl) hb); (try clear hb)))
         go_ret; exact ⟨by first | rfl | (simp [errW_none, errW_some] <;> rfl) | (simp [*, errW_none, errW_some] <;> rfl), bl⟩
     ·rw [if_neg c31] at H; have c31b0 : (t523 == 5) = false := beq_eq_false_iff_ne.mpr c31; have c31b1 : (t523 != 5) = true := bne_iff_ne.mpr c31; obtain rfl := Option.some.inj H; have hz85 := bc3 BK509
      go_wp2_with (first | ((with_reducible refine gate_callee (f := 12) rfl ?_); refine gL (some 32) Try.func12 #[.agg #[.slice A0_0 l0_0.length c0_0, .slice A0_1 l0_1.length c0_1, .slice A0_2 l0_2.length c0_2]] ?_; (with_reducible refine (codec_PutData.calls kj3 _ _ l0_0 _ _ l0_1 _ _ l0_2 t513 _ ?side1 ?side2 ?side3 ?side4 ?side5 ?side6 A28.out).mono ?_); (case side1 => exact cl HR0_0); (case side2 => exact HC0_0.out); (case side3 => exact cl HR0_1); (case side4 => exact HC0_1.out); (case side5 => exact cl HR0_2); (case side6 => exact HC0_2.out); rintro e w86 ⟨rfl, hb⟩; refine ⟨_, rfl, ?_⟩; replace BK509 := aM (kB (kl BK509) hb); replace HB := aM (bS (bl) hb); (try clear hb)) | ((with_reducible refine gate_callee (f := 14) rfl ?_); refine gL (some 37) Try.func14 #[.string (t513 ++ a2)] ?_; (with_reducible refine (codec_GetData.calls kj3 (t513 ++ a2) t514 t517 t520 t523 _ A30.out).mono ?_); rintro e w87 ⟨v515, v518, v521, rfl, ho0, ho1, ho2, hb⟩; refine ⟨_, rfl, ?_⟩; have HO516 := aM (Kd.S_lower ho0 (below_size (bl))); have HO519 := aM (Kd.S_lower ho1 (below_size (bl))); have HO522 := aM (Kd.S_lower ho2 (below_size (bl))); replace BK509 := aM (kB (kl BK509) hb); replace HB := aM (bS (bl) hb); (try clear hb); (try clear ho0); (try clear ho1); (try clear ho2)) | ((with_reducible refine gate_dst (N := 8) rfl ?_); (try (refine gate_guard (by rfl) ?_; dsimp only)); refine bx (N := 8) (cs := #[.slice none 0 0, .slice none 0 0, .slice none 0 0]) (t := 26) ?_; intro gb524 hg w88 hbox hb; have BK524 := aM (hbox); have GE524 := aM (gw (w := w) hg); obtain ⟨NB509_524, NB524_509⟩ := n2 BK509 hg; replace HO516 := aM (Kd.S_below (by (with_reducible repeat (first | apply Kd.S_alloc | apply Kd.S_drewN | apply Kd.S_drew)); exact HO516.out) hb); replace HO519 := aM (Kd.S_below (by (with_reducible repeat (first | apply Kd.S_alloc | apply Kd.S_drewN | apply Kd.S_drew)); exact HO519.out) hb); replace HO522 := aM (Kd.S_below (by (with_reducible repeat (first | apply Kd.S_alloc | apply Kd.S_drewN | apply Kd.S_drew)); exact HO522.out) hb); replace BK509 := aM (kB (kl BK509) hb); replace HB := aM (bS (bl) hb); clear hb hbox hg; obtain ⟨Ao89, co89, eo89⟩ := Kd.S_slice HO516.out; subst eo89; have hn90 := nn NB524_509; have hz91 := bc3 BK524; obtain ⟨Ao92, co92, eo92⟩ := Kd.S_slice HO519.out; subst eo92; obtain ⟨Ao93, co93, eo93⟩ := Kd.S_slice HO522.out; subst eo93))
      go_ret; exact ⟨by first | rfl | (simp [errW_none, errW_some] <;> rfl) | (simp [*, errW_none, errW_some] <;> rfl), bl⟩
    ·rw [if_neg c29] at H; exact absurd H (by simp)
def wf50 (x : S50) : Prop := (Lit.int .i64 x.f0).wf = true ∧ (Lit.int .i64 x.f1).wf = true
set_option maxRecDepth 100000 in
theorem opens50 : Opens Try.prog 50 k50 wf50 := by
 refine Opens.iso (d := (Kd.pair (Kd.int .i64) (Kd.int .i64))) (W := fun x => (Lit.int .i64 x.1).wf = true ∧ (Lit.int .i64 x.2).wf = true) (f := fun x : S50 => (x.f0, x.f1)) (g := fun x => (⟨x.1, x.2⟩ : S50)) ?_ (fun _ => rfl); refine Opens.struct Try.underlying50 (by kernel_rfl) ?_; exact (OpensF.cons rfl (Opens.int Try.underlying3 (by kernel_rfl)) (OpensF.one rfl (Opens.int Try.underlying3 (by kernel_rfl))))
def wf130 (x : S130) : Prop := x.f0.size ≤ maxLen ∧ x.f1.size ≤ maxLen
set_option maxRecDepth 100000 in
theorem opens130 : Opens Try.prog 130 k130 wf130 := by
 refine Opens.iso (d := (Kd.pair Kd.string Kd.string)) (W := fun x => x.1.size ≤ maxLen ∧ x.2.size ≤ maxLen) (f := fun x : S130 => (x.f0, x.f1)) (g := fun x => (⟨x.1, x.2⟩ : S130)) ?_ (fun _ => rfl); refine Opens.struct Try.underlying130 (by kernel_rfl) ?_; exact (OpensF.cons rfl (Opens.string Try.underlying9 (by kernel_rfl)) (OpensF.one rfl (Opens.string Try.underlying9 (by kernel_rfl))))
def wf53 (x : S53) : Prop := (Lit.int .i64 x.f0).wf = true ∧ wf50 x.f1 ∧ (x.f2.length ≤ 140737488355328 ∧ ∀ y ∈ x.f2, wf130 y)
set_option maxRecDepth 100000 in
theorem opens53 : Opens Try.prog 53 k53 wf53 := by
 refine Opens.iso (d := (Kd.pair (Kd.int .i64) (Kd.pair k50 (Kd.slice 130 k130)))) (W := fun x => (Lit.int .i64 x.1).wf = true ∧ wf50 x.2.1 ∧ (x.2.2.length ≤ 140737488355328 ∧ ∀ y ∈ x.2.2, wf130 y)) (f := fun x : S53 => (x.f0, x.f1, x.f2)) (g := fun x => (⟨x.1, x.2.1, x.2.2⟩ : S53)) ?_ (fun _ => rfl); refine Opens.struct Try.underlying53 (by kernel_rfl) ?_; exact (OpensF.cons rfl (Opens.int Try.underlying3 (by kernel_rfl)) (OpensF.cons rfl opens50 (OpensF.one rfl (Opens.slice Try.underlying51 (by kernel_rfl) (of_decide_eq_true (by kernel_rfl)) opens130))))
def wf56 (x : S56) : Prop := (Lit.int .i64 x.f0).wf = true ∧ (x.f1.length ≤ 140737488355328 ∧ ∀ y ∈ x.f1, (Lit.int .i64 y).wf = true) ∧ (x.f2.length ≤ 140737488355328 ∧ ∀ y ∈ x.f2, wf130 y)
set_option maxRecDepth 100000 in
theorem opens56 : Opens Try.prog 56 k56 wf56 := by
 refine Opens.iso (d := (Kd.pair (Kd.int .i64) (Kd.pair (Kd.slice 3 (Kd.int .i64)) (Kd.slice 130 k130)))) (W := fun x => (Lit.int .i64 x.1).wf = true ∧ (x.2.1.length ≤ 140737488355328 ∧ ∀ y ∈ x.2.1, (Lit.int .i64 y).wf = true) ∧ (x.2.2.length ≤ 140737488355328 ∧ ∀ y ∈ x.2.2, wf130 y)) (f := fun x : S56 => (x.f0, x.f1, x.f2)) (g := fun x => (⟨x.1, x.2.1, x.2.2⟩ : S56)) ?_ (fun _ => rfl); refine Opens.struct Try.underlying56 (by kernel_rfl) ?_; exact (OpensF.cons rfl (Opens.int Try.underlying3 (by kernel_rfl)) (OpensF.cons rfl (Opens.slice Try.underlying54 (by kernel_rfl) (of_decide_eq_true (by kernel_rfl)) (Opens.int Try.underlying3 (by kernel_rfl))) (OpensF.one rfl (Opens.slice Try.underlying51 (by kernel_rfl) (of_decide_eq_true (by kernel_rfl)) opens130))))
def wf61 (x : S61) : Prop := (Lit.int .i64 x.f0).wf = true ∧ (Lit.int .i64 x.f1).wf = true
set_option maxRecDepth 100000 in
theorem opens61 : Opens Try.prog 61 k61 wf61 := by
 refine Opens.iso (d := (Kd.pair (Kd.int .i64) (Kd.int .i64))) (W := fun x => (Lit.int .i64 x.1).wf = true ∧ (Lit.int .i64 x.2).wf = true) (f := fun x : S61 => (x.f0, x.f1)) (g := fun x => (⟨x.1, x.2⟩ : S61)) ?_ (fun _ => rfl); refine Opens.struct Try.underlying61 (by kernel_rfl) ?_; exact (OpensF.cons rfl (Opens.int Try.underlying3 (by kernel_rfl)) (OpensF.one rfl (Opens.int Try.underlying3 (by kernel_rfl))))
def wf63 (x : S63) : Prop := wf61 x.f0 ∧ x.f1.size ≤ maxLen
set_option maxRecDepth 100000 in
theorem opens63 : Opens Try.prog 63 k63 wf63 := by
 refine Opens.iso (d := (Kd.pair k61 Kd.string)) (W := fun x => wf61 x.1 ∧ x.2.size ≤ maxLen) (f := fun x : S63 => (x.f0, x.f1)) (g := fun x => (⟨x.1, x.2⟩ : S63)) ?_ (fun _ => rfl); refine Opens.struct Try.underlying63 (by kernel_rfl) ?_; exact (OpensF.cons rfl opens61 (OpensF.one rfl (Opens.string Try.underlying9 (by kernel_rfl))))
def wf59 (x : S59) : Prop := (Lit.int .i64 x.f0).wf = true ∧ (x.f1.length ≤ 140737488355328 ∧ ∀ y ∈ x.f1, wf63 y) ∧ (x.f2.length ≤ 140737488355328 ∧ ∀ y ∈ x.f2, wf130 y)
set_option maxRecDepth 100000 in
theorem opens59 : Opens Try.prog 59 k59 wf59 := by
 refine Opens.iso (d := (Kd.pair (Kd.int .i64) (Kd.pair (Kd.slice 63 k63) (Kd.slice 130 k130)))) (W := fun x => (Lit.int .i64 x.1).wf = true ∧ (x.2.1.length ≤ 140737488355328 ∧ ∀ y ∈ x.2.1, wf63 y) ∧ (x.2.2.length ≤ 140737488355328 ∧ ∀ y ∈ x.2.2, wf130 y)) (f := fun x : S59 => (x.f0, x.f1, x.f2)) (g := fun x => (⟨x.1, x.2.1, x.2.2⟩ : S59)) ?_ (fun _ => rfl); refine Opens.struct Try.underlying59 (by kernel_rfl) ?_; exact (OpensF.cons rfl (Opens.int Try.underlying3 (by kernel_rfl)) (OpensF.cons rfl (Opens.slice Try.underlying57 (by kernel_rfl) (of_decide_eq_true (by kernel_rfl)) opens63) (OpensF.one rfl (Opens.slice Try.underlying51 (by kernel_rfl) (of_decide_eq_true (by kernel_rfl)) opens130))))
def wf26 (x : S26) : Prop := (x.f0.length ≤ 140737488355328 ∧ ∀ y ∈ x.f0, wf53 y) ∧ (x.f1.length ≤ 140737488355328 ∧ ∀ y ∈ x.f1, wf56 y) ∧ (x.f2.length ≤ 140737488355328 ∧ ∀ y ∈ x.f2, wf59 y)
set_option maxRecDepth 100000 in
theorem opens26 : Opens Try.prog 26 k26 wf26 := by
 refine Opens.iso (d := (Kd.pair (Kd.slice 53 k53) (Kd.pair (Kd.slice 56 k56) (Kd.slice 59 k59)))) (W := fun x => (x.1.length ≤ 140737488355328 ∧ ∀ y ∈ x.1, wf53 y) ∧ (x.2.1.length ≤ 140737488355328 ∧ ∀ y ∈ x.2.1, wf56 y) ∧ (x.2.2.length ≤ 140737488355328 ∧ ∀ y ∈ x.2.2, wf59 y)) (f := fun x : S26 => (x.f0, x.f1, x.f2)) (g := fun x => (⟨x.1, x.2.1, x.2.2⟩ : S26)) ?_ (fun _ => rfl); refine Opens.struct Try.underlying26 (by kernel_rfl) ?_; exact (OpensF.cons rfl (Opens.slice Try.underlying22 (by kernel_rfl) (of_decide_eq_true (by kernel_rfl)) opens53) (OpensF.cons rfl (Opens.slice Try.underlying23 (by kernel_rfl) (of_decide_eq_true (by kernel_rfl)) opens56) (OpensF.one rfl (Opens.slice Try.underlying24 (by kernel_rfl) (of_decide_eq_true (by kernel_rfl)) opens59))))
theorem mapmakerlaw16_CodecCuts.opens_0 : Opens Try.prog 26 k26 (fun x => wf26 x) := opens26
def mapmakerlaw16_CodecCuts.Pure : Prop := ∀ (x0 : S26) (a1 : Int) (a2 : ByteArray), wf26 x0 → (Lit.int .i64 a1).wf = true → a2.size ≤ maxLen → ∃ k, mapmakerlaw16_CodecCuts.f k x0.f0 x0.f1 x0.f2 a1 a2 = some true
theorem mapmakerlaw16_CodecCuts.walk (P : mapmakerlaw16_CodecCuts.Pure) (w : World) (x0 : S26) (cs0 : Array Value) (hK0 : k26.K w x0 cs0.toList) (a1 : Int) (a2 : ByteArray) (w0 : wf26 x0) (w1 : (Lit.int .i64 a1).wf = true) (w2 : a2.size ≤ maxLen) :
  Calls Try.prog 8 #[.agg cs0, .int .i64 a1, .string a2] w fun e w' => e = .returned (.bool true) ∧ Below w.heap.size w w' := by
 obtain ⟨k, h⟩ := P x0 a1 a2 w0 w1 w2; obtain ⟨A0_0, c0_0, A0_1, c0_1, A0_2, c0_2, hcs0, hc0_0, hr0_0, hc0_1, hr0_1, hc0_2, hr0_2⟩ := k26_open hK0; obtain rfl : cs0 = #[.slice A0_0 x0.f0.length c0_0, .slice A0_1 x0.f1.length c0_1, .slice A0_2 x0.f2.length c0_2] := Array.ext' (by rw [hcs0]); refine (mapmakerlaw16_CodecCuts.calls k A0_0 c0_0 x0.f0 A0_1 c0_1 x0.f1 A0_2 c0_2 x0.f2 a1 a2 true w hr0_0 hc0_0 hr0_1 hc0_1 hr0_2 hc0_2 h).mono ?_; rintro e w' ⟨rfl, hd⟩; exact ⟨rfl, hd⟩
end Go.Proofs.Ytefambkodalomaa.PAll
