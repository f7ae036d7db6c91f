-- out of a driver of this session's prover over the kit's print: Lean checks it
import Derived.Test.YtgenbepicnbecaaPAllx0
import Derived.Test.YtgenbepicnbecaaPAllx17
import Derived.Test.YtgenbepicnbecaaPAllx19
namespace Go.Proofs.Ytgenbepicnbecaa.PAll
open Go.Proofs.YtgenbepicnbecaaG Go.Shelf Go.Lib
open Go.RowKit Go.Proofs.YtgenbepicnbecaaW.PrintWords Go.Proofs.YtgenbepicnbecaaW.PrintLast Go.Proofs.YtgenbepicnbecaaW.PrintMore
attribute [local go_sem] max2_int min2_int max_two min_two max_three min_three max_four min_four   -- for this text's walks alone
set_option linter.unusedVariables false
set_option linter.unusedSimpArgs false
mutual
def mapmakerref14_Refs.l0 : Nat → List (S34) → Int → List (S39) → List (S45) → List (S51) → Option ((List (S34)))
 | 0, _, _, _, _, _ => none
 | k + 1, x3, x4, x379000, x379001, x379002 => if x4 < (x379000.length : Int) then (if 0 ≤ x4 then (if x3.length < 8796093022208 then (mapmakerref14_Refs.l0 k (x3 ++ [(⟨1, (rd_T39 x379000 x4).f0⟩ : S34)]) (wrap64 (x4 + 1)) x379000 x379001 x379002) else (none)) else (none)) else (mapmakerref14_Refs.l1 k x3 0 x379000 x379001 x379002)
def mapmakerref14_Refs.l1 : Nat → List (S34) → Int → List (S39) → List (S45) → List (S51) → Option ((List (S34)))
 | 0, _, _, _, _, _ => none
 | k + 1, x3, x5, x379000, x379001, x379002 => if x5 < (x379001.length : Int) then (if 0 ≤ x5 then (if x3.length < 8796093022208 then (mapmakerref14_Refs.l1 k (x3 ++ [(⟨2, (rd_T45 x379001 x5).f0⟩ : S34)]) (wrap64 (x5 + 1)) x379000 x379001 x379002) else (none)) else (none)) else (mapmakerref14_Refs.l2 k x3 0 x379000 x379001 x379002)
def mapmakerref14_Refs.l2 : Nat → List (S34) → Int → List (S39) → List (S45) → List (S51) → Option ((List (S34)))
 | 0, _, _, _, _, _ => none
 | k + 1, x3, x6, x379000, x379001, x379002 => if x6 < (x379002.length : Int) then (if 0 ≤ x6 then (if x3.length < 8796093022208 then (mapmakerref14_Refs.l2 k (x3 ++ [(⟨3, (rd_T51 x379002 x6).f0⟩ : S34)]) (wrap64 (x6 + 1)) x379000 x379001 x379002) else (none)) else (none)) else (some x3)
end
def mapmakerref14_Refs.f (k : Nat) (l0_0 : List (S39)) (l0_1 : List (S45)) (l0_2 : List (S51)) : Option ((List (S34))) := mapmakerref14_Refs.l0 k ([] : List (S34)) 0 l0_0 l0_1 l0_2
theorem mapmakerref14_Refs.mono_l : ∀ k, (∀ y0 y1 y2 y3 y4, LeO (mapmakerref14_Refs.l0 k y0 y1 y2 y3 y4) (mapmakerref14_Refs.l0 (k + 1) y0 y1 y2 y3 y4)) ∧ (∀ y0 y1 y2 y3 y4, LeO (mapmakerref14_Refs.l1 k y0 y1 y2 y3 y4) (mapmakerref14_Refs.l1 (k + 1) y0 y1 y2 y3 y4)) ∧ (∀ y0 y1 y2 y3 y4, LeO (mapmakerref14_Refs.l2 k y0 y1 y2 y3 y4) (mapmakerref14_Refs.l2 (k + 1) y0 y1 y2 y3 y4))
 | 0 => ⟨fun _ _ _ _ _ r h => by simp [mapmakerref14_Refs.l0] at h, fun _ _ _ _ _ r h => by simp [mapmakerref14_Refs.l1] at h, fun _ _ _ _ _ r h => by simp [mapmakerref14_Refs.l2] at h⟩
 | k + 1 => by
  obtain ⟨ih0, ih1, ih2⟩ := mapmakerref14_Refs.mono_l k
  refine ⟨?_, ?_, ?_⟩
  ·intro y0 y1 y2 y3 y4
   unfold mapmakerref14_Refs.l0
   repeat' first
   | (with_reducible exact ih0 _ _ _ _ _)
   | (with_reducible exact ih1 _ _ _ _ _)
   | (with_reducible exact ih2 _ _ _ _ _)
   | (with_reducible exact LeO.refl _)
   | (with_reducible exact LeO.none _)
   | (with_reducible refine LeO.ite ?_ ?_)
   | (with_reducible refine LeO.bind ?_ (fun _ => ?_))
   | exact ih0 _ _ _ _ _
   | exact ih1 _ _ _ _ _
   | exact ih2 _ _ _ _ _
   | exact LeO.none _
   | refine LeO.ite ?_ ?_
   | refine LeO.bind ?_ (fun _ => ?_)
  ·intro y0 y1 y2 y3 y4
   unfold mapmakerref14_Refs.l1
   repeat' first
   | (with_reducible exact ih0 _ _ _ _ _)
   | (with_reducible exact ih1 _ _ _ _ _)
   | (with_reducible exact ih2 _ _ _ _ _)
   | (with_reducible exact LeO.refl _)
   | (with_reducible exact LeO.none _)
   | (with_reducible refine LeO.ite ?_ ?_)
   | (with_reducible refine LeO.bind ?_ (fun _ => ?_))
   | exact ih0 _ _ _ _ _
   | exact ih1 _ _ _ _ _
   | exact ih2 _ _ _ _ _
   | exact LeO.none _
   | refine LeO.ite ?_ ?_
   | refine LeO.bind ?_ (fun _ => ?_)
  ·intro y0 y1 y2 y3 y4
   unfold mapmakerref14_Refs.l2
   repeat' first
   | (with_reducible exact ih0 _ _ _ _ _)
   | (with_reducible exact ih1 _ _ _ _ _)
   | (with_reducible exact ih2 _ _ _ _ _)
   | (with_reducible exact LeO.refl _)
   | (with_reducible exact LeO.none _)
   | (with_reducible refine LeO.ite ?_ ?_)
   | (with_reducible refine LeO.bind ?_ (fun _ => ?_))
   | exact ih0 _ _ _ _ _
   | exact ih1 _ _ _ _ _
   | exact ih2 _ _ _ _ _
   | exact LeO.none _
   | refine LeO.ite ?_ ?_
   | refine LeO.bind ?_ (fun _ => ?_)
theorem mapmakerref14_Refs.mono : ∀ a0 a1 a2 k, LeO (mapmakerref14_Refs.f k a0 a1 a2) (mapmakerref14_Refs.f (k + 1) a0 a1 a2) := by
 intro a0 a1 a2 k
 obtain ⟨ih0, ih1, ih2⟩ := mapmakerref14_Refs.mono_l k
 unfold mapmakerref14_Refs.f
 repeat' first
   | (with_reducible exact ih0 _ _ _ _ _)
   | (with_reducible exact ih1 _ _ _ _ _)
   | (with_reducible exact ih2 _ _ _ _ _)
   | (with_reducible exact LeO.refl _)
   | (with_reducible exact LeO.none _)
   | (with_reducible refine LeO.ite ?_ ?_)
   | (with_reducible refine LeO.bind ?_ (fun _ => ?_))
   | exact ih0 _ _ _ _ _
   | exact ih1 _ _ _ _ _
   | exact ih2 _ _ _ _ _
   | exact LeO.none _
   | refine LeO.ite ?_ ?_
   | refine LeO.bind ?_ (fun _ => ?_)
set_option maxHeartbeats 8000000 in
set_option maxRecDepth 100000 in
theorem mapmakerref14_Refs.calls (k : Nat) (A0_0 : Option Addr) (c0_0 : Nat) (l0_0 : List (S39)) (A0_1 : Option Addr) (c0_1 : Nat) (l0_1 : List (S45)) (A0_2 : Option Addr) (c0_2 : Nat) (l0_2 : List (S51)) (r : List (S34)) (w : World) (hr0_0 : Kd.C k39 w A0_0 l0_0.length l0_0) (hc0_0 : l0_0.length ≤ c0_0) (hr0_1 : Kd.C k45 w A0_1 l0_1.length l0_1) (hc0_1 : l0_1.length ≤ c0_1) (hr0_2 : Kd.C k51 w A0_2 l0_2.length l0_2) (hc0_2 : l0_2.length ≤ c0_2) (h : mapmakerref14_Refs.f k l0_0 l0_1 l0_2 = some r) :
  Calls Try.prog 27 #[.agg #[.slice A0_0 l0_0.length c0_0, .slice A0_1 l0_1.length c0_1, .slice A0_2 l0_2.length c0_2]] w fun e w' => ∃ v0_ : Value, e = .returned (v0_) ∧ Kd.R k34 34 w' w.heap.size (fun _ => True) v0_ r ∧ Below w.heap.size w w' := by
 have hu26 := Try.underlying26
 have hu34 := Try.underlying34
 have HR0_0 := aM hr0_0
 have HC0_0 := aM hc0_0
 clear hr0_0 hc0_0
 have HR0_1 := aM hr0_1
 have HC0_1 := aM hc0_1
 clear hr0_1 hc0_1
 have HR0_2 := aM hr0_2
 have HC0_2 := aM hc0_2
 clear hr0_2 hc0_2
 have HB := aM (Below.refl w.heap.size w)
 have H : (mapmakerref14_Refs.l0 k ([] : List (S34)) 0 l0_0 l0_1 l0_2) = some r := h
 clear h
 have H' := aM H
 clear H
 go_enter Try.func27, Try.ntmps27
 go_wp2_with (first | ((with_reducible refine gate_dst (N := 1) rfl ?_); refine bx (N := 1) (cs := #[.slice A0_0 l0_0.length c0_0, .slice A0_1 l0_1.length c0_1, .slice A0_2 l0_2.length c0_2]) (t := 26) ?_; intro gb378 hg w2 hbox hb; have BK378 := aM (hbox); have GE378 := aM (gw (w := w) hg); replace HB := aM (bS (bl) hb); clear hb hbox hg))
 go_loopg [3, 4] k (fun kq v3 v4 w' => ∃ (x3_1 : List (S34)) (x4_1 : Int), v4 = .int .i64 x4_1 ∧ Aside0 (mapmakerref14_Refs.l0 kq x3_1 x4_1 l0_0 l0_1 l0_2 = some r) ∧ Aside0 (kq ≤ k) ∧ Aside0 (Kd.R k34 34 w' w.heap.size (fun _ => True) v3 x3_1) ∧ Aside0 (w'.heap[gb378]? = some (.cells #[(.slice A0_0 l0_0.length c0_0), (.slice A0_1 l0_1.length c0_1), (.slice A0_2 l0_2.length c0_2)] 26 (0, 0))) ∧ Aside0 (Below w.heap.size w w'))
 case atStart => exact ⟨(([] : List (S34))), (0), (by first | rfl | (simp; done) | (simp [*]; done)), H', ⟨Nat.le_refl _⟩, ⟨by first | exact Kd.R_nil _ _ _ _ _ | exact Kd.N_nil _ _ _ _ _ | exact Kd.V_nil _ _ _ _ _ | exact Kd.Q_nil _ _ _ _ _ | exact Kd.S_nil _ _ _ _ _⟩, ⟨by (with_reducible repeat (first | refine kN ?_ _ | refine kD ?_ | refine kA ?_ _)); exact BK378.out⟩, ⟨bl⟩⟩
 case round =>
  clear H'
  try clear c2
  try clear p2
  obtain ⟨x3_1, x4_1, rfl, HA, HK1, HO_3, BK378, HB⟩ := hrel
  cases gk with
  | zero => exact absurd HA.out (by simp [mapmakerref14_Refs.l0])
  | succ k1 =>
   have H := HA.out
   clear HA
   simp only [mapmakerref14_Refs.l0] at H
   by_cases c3 : x4_1 < (l0_0.length : Int)
   ·rw [if_pos c3] at H
    have c3b0 : decide (x4_1 < (l0_0.length : Int)) = true := decide_eq_true c3
    clear c3
    by_cases c4 : 0 ≤ x4_1
    ·rw [if_pos c4] at H
     have c4b0 : decide (0 ≤ x4_1) = true := decide_eq_true c4
     clear c4
     by_cases c5 : x3_1.length < 8796093022208
     ·rw [if_pos c5] at H
      have LMc5 := aM c5
      clear c5
      obtain ⟨y380, hy380⟩ : ∃ y_ : List (S34), y_ = (x3_1 ++ [(⟨1, (rd_T39 l0_0 x4_1).f0⟩ : S34)]) := ⟨_, rfl⟩
      replace H : (mapmakerref14_Refs.l0 k1 y380 (wrap64 (x4_1 + 1)) l0_0 l0_1 l0_2) = some r := by first | (rw [hy380]; with_reducible exact H) | (have H2_ := (Option.bind_some _ _).symm.trans H; rw [hy380]; with_reducible exact H2_) | (have H2_ := (Option.bind_some _ _).symm.trans H; with_reducible exact H2_) | with_reducible exact H | (rw [hy380]; exact H) | exact H
      have Ny380 := aM hy380
      clear hy380
      have H' := aM H
      clear H
      obtain ⟨hcz6_0, hcz6_1, hcz6_2, hfz6_0, hfz6_1, hfz6_2⟩ := bc3 BK378
      have p379 : 0 ≤ (x4_1 : Int) := oT
      have q379 : x4_1 < (l0_0.length : Int) := oT
      obtain ⟨ad379, A379_3, c379_3, e379, hx379_0, hx379_1, hx379_2, hx379_3, hl379_3, hi379_3⟩ := at_T39 HR0_0.out x4_1 p379 q379
      cases e379
      replace hx379_0 := hs HB.out hx379_0
      replace hx379_1 := hs HB.out hx379_1
      replace hx379_2 := hs HB.out hx379_2
      replace hx379_3 := hs HB.out hx379_3
      have HR379_3 := aM hi379_3
      have HC379_3 := aM hl379_3
      clear hi379_3 hl379_3
      replace p379 := eq_true p379
      replace q379 := eq_true q379
      go_wp2_with (first | ((with_reducible refine gate_builtin (b := .append) (xs := #[.tmp 14, .tmp 22]) rfl ?_); at_builtin; refine Kd.R_append k34 (w0 := w) w.heap.size rfl (.tmp 14) (.tmp 22) 57 34 (.agg #[(.int .i64 0), (.int .i64 0)]) 16 rfl Try.underlying57 info34 rfl (by decide) (by omega) u3 x3_1 (⟨1, (rd_T39 l0_0 x4_1).f0⟩ : S34) [.int .i64 1, .int .i64 ((rd_T39 l0_0 x4_1).f0)] (fun _ => True) (fun _ => False) rfl rfl ?aP (fun _ hk => hk.elim) ?aF ?aO ?aB ?aS ?aL ?_; (case aP => exact k34_mkM _ _ _ (⟨1, (rd_T39 l0_0 x4_1).f0⟩ : S34)); (case aB => exact (bl)); (case aF => exact (fun _ _ => trivial)); (case aO => exact (rl HO_3)); (case aS => exact (below_size (bl))); (case aL => have := LMc5.out; omega); intro v381 w7 ho hb hg hat; rw [← Ny380.out] at ho; have HO382 := aM (ho); replace BK378 := aM (blk_grown (kl BK378) hg (Kd.R_ne HO_3.out BK378.out (by decide))); replace HB := aM (hb); clear HO_3 ho hb hg hat))
      go_roundg k1
      case measure => have := HK1.out; omega
      case rel => exact ⟨(y380), (wrap64 (x4_1 + 1)), (by first | rfl | (simp; done) | (simp [*]; done)), H', ⟨by have := HK1.out; omega⟩, ⟨by (with_reducible repeat (first | apply rA | apply rN | apply rD)); exact HO382.out⟩, ⟨by (with_reducible repeat (first | refine kN ?_ _ | refine kD ?_ | refine kA ?_ _)); exact BK378.out⟩, ⟨bl⟩⟩
     ·rw [if_neg c5] at H
      exact absurd H (by simp)
    ·rw [if_neg c4] at H
     exact absurd H (by simp)
   ·rw [if_neg c3] at H
    have c3b0 : decide (x4_1 < (l0_0.length : Int)) = false := decide_eq_false c3
    clear c3
    have H' := aM H
    clear H
    obtain ⟨hcz8_0, hcz8_1, hcz8_2, hfz8_0, hfz8_1, hfz8_2⟩ := bc3 BK378
    go_wp2
    go_loopg [3, 5] k1 (fun kq v3 v5 w' => ∃ (x3_2 : List (S34)) (x5_2 : Int), v5 = .int .i64 x5_2 ∧ Aside0 (mapmakerref14_Refs.l1 kq x3_2 x5_2 l0_0 l0_1 l0_2 = some r) ∧ Aside0 (kq ≤ k1) ∧ Aside0 (Kd.R k34 34 w' w.heap.size (fun _ => True) v3 x3_2) ∧ Aside0 (w'.heap[gb378]? = some (.cells #[(.slice A0_0 l0_0.length c0_0), (.slice A0_1 l0_1.length c0_1), (.slice A0_2 l0_2.length c0_2)] 26 (0, 0))) ∧ Aside0 (Below w.heap.size w w'))
    case atStart => exact ⟨(x3_1), (0), (by first | rfl | (simp; done) | (simp [*]; done)), H', ⟨Nat.le_refl _⟩, ⟨by (with_reducible repeat (first | apply rA | apply rN | apply rD)); exact HO_3.out⟩, ⟨by (with_reducible repeat (first | refine kN ?_ _ | refine kD ?_ | refine kA ?_ _)); exact BK378.out⟩, ⟨bl⟩⟩
    case round =>
     clear H'
     try clear c2
     try clear p2
     try clear c3
     try clear c3b0
     try clear p3
     try clear q3
     try clear hx3
     try clear c4
     try clear c4b0
     try clear c5
     try clear p6
     try clear hcz6_0 hcz6_1 hcz6_2 hfz6_0 hfz6_1 hfz6_2
     try clear hcz8_0 hcz8_1 hcz8_2 hfz8_0 hfz8_1 hfz8_2
     try clear hx379_0
     try clear hx379_1
     try clear hx379_2
     try clear hx379_3
     try clear p2
     try clear p379
     try clear q379
     obtain ⟨x3_2, x5_2, rfl, HA, HK2, HO_3, BK378, HB⟩ := hrel
     cases gk with
     | zero => exact absurd HA.out (by simp [mapmakerref14_Refs.l1])
     | succ k2 =>
      have H := HA.out
      clear HA
      simp only [mapmakerref14_Refs.l1] at H
      by_cases c9 : x5_2 < (l0_1.length : Int)
      ·rw [if_pos c9] at H
       have c9b0 : decide (x5_2 < (l0_1.length : Int)) = true := decide_eq_true c9
       clear c9
       by_cases c10 : 0 ≤ x5_2
       ·rw [if_pos c10] at H
        have c10b0 : decide (0 ≤ x5_2) = true := decide_eq_true c10
        clear c10
        by_cases c11 : x3_2.length < 8796093022208
        ·rw [if_pos c11] at H
         have LMc11 := aM c11
         clear c11
         obtain ⟨y384, hy384⟩ : ∃ y_ : List (S34), y_ = (x3_2 ++ [(⟨2, (rd_T45 l0_1 x5_2).f0⟩ : S34)]) := ⟨_, rfl⟩
         replace H : (mapmakerref14_Refs.l1 k2 y384 (wrap64 (x5_2 + 1)) l0_0 l0_1 l0_2) = some r := by first | (rw [hy384]; with_reducible exact H) | (have H2_ := (Option.bind_some _ _).symm.trans H; rw [hy384]; with_reducible exact H2_) | (have H2_ := (Option.bind_some _ _).symm.trans H; with_reducible exact H2_) | with_reducible exact H | (rw [hy384]; exact H) | exact H
         have Ny384 := aM hy384
         clear hy384
         have H' := aM H
         clear H
         obtain ⟨hcz12_0, hcz12_1, hcz12_2, hfz12_0, hfz12_1, hfz12_2⟩ := bc3 BK378
         have p383 : 0 ≤ (x5_2 : Int) := oT
         have q383 : x5_2 < (l0_1.length : Int) := oT
         obtain ⟨ad383, A383_1, c383_1, A383_2, c383_2, e383, hx383_0, hx383_1, hx383_2, hl383_1, hi383_1, hl383_2, hi383_2⟩ := at_T45 HR0_1.out x5_2 p383 q383
         cases e383
         replace hx383_0 := hs HB.out hx383_0
         replace hx383_1 := hs HB.out hx383_1
         replace hx383_2 := hs HB.out hx383_2
         have HR383_1 := aM hi383_1
         have HC383_1 := aM hl383_1
         clear hi383_1 hl383_1
         have HR383_2 := aM hi383_2
         have HC383_2 := aM hl383_2
         clear hi383_2 hl383_2
         replace p383 := eq_true p383
         replace q383 := eq_true q383
         go_wp2_with (first | ((with_reducible refine gate_builtin (b := .append) (xs := #[.tmp 31, .tmp 39]) rfl ?_); at_builtin; refine Kd.R_append k34 (w0 := w) w.heap.size rfl (.tmp 31) (.tmp 39) 57 34 (.agg #[(.int .i64 0), (.int .i64 0)]) 16 rfl Try.underlying57 info34 rfl (by decide) (by omega) u3 x3_2 (⟨2, (rd_T45 l0_1 x5_2).f0⟩ : S34) [.int .i64 2, .int .i64 ((rd_T45 l0_1 x5_2).f0)] (fun _ => True) (fun _ => False) rfl rfl ?aP (fun _ hk => hk.elim) ?aF ?aO ?aB ?aS ?aL ?_; (case aP => exact k34_mkM _ _ _ (⟨2, (rd_T45 l0_1 x5_2).f0⟩ : S34)); (case aB => exact (bl)); (case aF => exact (fun _ _ => trivial)); (case aO => exact (rl HO_3)); (case aS => exact (below_size (bl))); (case aL => have := LMc11.out; omega); intro v385 w13 ho hb hg hat; rw [← Ny384.out] at ho; have HO386 := aM (ho); replace BK378 := aM (blk_grown (kl BK378) hg (Kd.R_ne HO_3.out BK378.out (by decide))); replace HB := aM (hb); clear HO_3 ho hb hg hat))
         go_roundg k2
         case measure => have := HK1.out; have := HK2.out; omega
         case rel => exact ⟨(y384), (wrap64 (x5_2 + 1)), (by first | rfl | (simp; done) | (simp [*]; done)), H', ⟨by have := HK1.out; have := HK2.out; omega⟩, ⟨by (with_reducible repeat (first | apply rA | apply rN | apply rD)); exact HO386.out⟩, ⟨by (with_reducible repeat (first | refine kN ?_ _ | refine kD ?_ | refine kA ?_ _)); exact BK378.out⟩, ⟨bl⟩⟩
        ·rw [if_neg c11] at H
         exact absurd H (by simp)
       ·rw [if_neg c10] at H
        exact absurd H (by simp)
      ·rw [if_neg c9] at H
       have c9b0 : decide (x5_2 < (l0_1.length : Int)) = false := decide_eq_false c9
       clear c9
       have H' := aM H
       clear H
       obtain ⟨hcz14_0, hcz14_1, hcz14_2, hfz14_0, hfz14_1, hfz14_2⟩ := bc3 BK378
       go_wp2
       go_loopg [3, 6] k2 (fun kq v3 v6 w' => ∃ (x3_3 : List (S34)) (x6_3 : Int), v6 = .int .i64 x6_3 ∧ Aside0 (mapmakerref14_Refs.l2 kq x3_3 x6_3 l0_0 l0_1 l0_2 = some r) ∧ Aside0 (kq ≤ k2) ∧ Aside0 (Kd.R k34 34 w' w.heap.size (fun _ => True) v3 x3_3) ∧ Aside0 (w'.heap[gb378]? = some (.cells #[(.slice A0_0 l0_0.length c0_0), (.slice A0_1 l0_1.length c0_1), (.slice A0_2 l0_2.length c0_2)] 26 (0, 0))) ∧ Aside0 (Below w.heap.size w w'))
       case atStart => exact ⟨(x3_2), (0), (by first | rfl | (simp; done) | (simp [*]; done)), H', ⟨Nat.le_refl _⟩, ⟨by (with_reducible repeat (first | apply rA | apply rN | apply rD)); exact HO_3.out⟩, ⟨by (with_reducible repeat (first | refine kN ?_ _ | refine kD ?_ | refine kA ?_ _)); exact BK378.out⟩, ⟨bl⟩⟩
       case round =>
        clear H'
        try clear c1
        try clear c2
        try clear p2
        try clear c3
        try clear c3b0
        try clear p3
        try clear q3
        try clear hx3
        try clear c4
        try clear c4b0
        try clear c5
        try clear p6
        try clear c9
        try clear c9b0
        try clear c10
        try clear c10b0
        try clear c11
        try clear hcz12_0 hcz12_1 hcz12_2 hfz12_0 hfz12_1 hfz12_2
        try clear hcz14_0 hcz14_1 hcz14_2 hfz14_0 hfz14_1 hfz14_2
        try clear hcz6_0 hcz6_1 hcz6_2 hfz6_0 hfz6_1 hfz6_2
        try clear hcz8_0 hcz8_1 hcz8_2 hfz8_0 hfz8_1 hfz8_2
        try clear hx379_0
        try clear hx379_1
        try clear hx379_2
        try clear hx379_3
        try clear hx383_0
        try clear hx383_1
        try clear hx383_2
        try clear p2
        try clear p3
        try clear p379
        try clear p383
        try clear p6
        try clear q3
        try clear q379
        try clear q383
        obtain ⟨x3_3, x6_3, rfl, HA, HK3, HO_3, BK378, HB⟩ := hrel
        cases gk with
        | zero => exact absurd HA.out (by simp [mapmakerref14_Refs.l2])
        | succ k3 =>
         have H := HA.out
         clear HA
         simp only [mapmakerref14_Refs.l2] at H
         by_cases c15 : x6_3 < (l0_2.length : Int)
         ·rw [if_pos c15] at H
          have c15b0 : decide (x6_3 < (l0_2.length : Int)) = true := decide_eq_true c15
          clear c15
          by_cases c16 : 0 ≤ x6_3
          ·rw [if_pos c16] at H
           have c16b0 : decide (0 ≤ x6_3) = true := decide_eq_true c16
           clear c16
           by_cases c17 : x3_3.length < 8796093022208
           ·rw [if_pos c17] at H
            have LMc17 := aM c17
            clear c17
            obtain ⟨y388, hy388⟩ : ∃ y_ : List (S34), y_ = (x3_3 ++ [(⟨3, (rd_T51 l0_2 x6_3).f0⟩ : S34)]) := ⟨_, rfl⟩
            replace H : (mapmakerref14_Refs.l2 k3 y388 (wrap64 (x6_3 + 1)) l0_0 l0_1 l0_2) = some r := by first | (rw [hy388]; with_reducible exact H) | (have H2_ := (Option.bind_some _ _).symm.trans H; rw [hy388]; with_reducible exact H2_) | (have H2_ := (Option.bind_some _ _).symm.trans H; with_reducible exact H2_) | with_reducible exact H | (rw [hy388]; exact H) | exact H
            have Ny388 := aM hy388
            clear hy388
            have H' := aM H
            clear H
            obtain ⟨hcz18_0, hcz18_1, hcz18_2, hfz18_0, hfz18_1, hfz18_2⟩ := bc3 BK378
            have p387 : 0 ≤ (x6_3 : Int) := oT
            have q387 : x6_3 < (l0_2.length : Int) := oT
            obtain ⟨ad387, A387_1, c387_1, A387_2, c387_2, e387, hx387_0, hx387_1, hx387_2, hl387_1, hi387_1, hl387_2, hi387_2⟩ := at_T51 HR0_2.out x6_3 p387 q387
            cases e387
            replace hx387_0 := hs HB.out hx387_0
            replace hx387_1 := hs HB.out hx387_1
            replace hx387_2 := hs HB.out hx387_2
            have HR387_1 := aM hi387_1
            have HC387_1 := aM hl387_1
            clear hi387_1 hl387_1
            have HR387_2 := aM hi387_2
            have HC387_2 := aM hl387_2
            clear hi387_2 hl387_2
            replace p387 := eq_true p387
            replace q387 := eq_true q387
            go_wp2_with (first | ((with_reducible refine gate_builtin (b := .append) (xs := #[.tmp 48, .tmp 56]) rfl ?_); at_builtin; refine Kd.R_append k34 (w0 := w) w.heap.size rfl (.tmp 48) (.tmp 56) 57 34 (.agg #[(.int .i64 0), (.int .i64 0)]) 16 rfl Try.underlying57 info34 rfl (by decide) (by omega) u3 x3_3 (⟨3, (rd_T51 l0_2 x6_3).f0⟩ : S34) [.int .i64 3, .int .i64 ((rd_T51 l0_2 x6_3).f0)] (fun _ => True) (fun _ => False) rfl rfl ?aP (fun _ hk => hk.elim) ?aF ?aO ?aB ?aS ?aL ?_; (case aP => exact k34_mkM _ _ _ (⟨3, (rd_T51 l0_2 x6_3).f0⟩ : S34)); (case aB => exact (bl)); (case aF => exact (fun _ _ => trivial)); (case aO => exact (rl HO_3)); (case aS => exact (below_size (bl))); (case aL => have := LMc17.out; omega); intro v389 w19 ho hb hg hat; rw [← Ny388.out] at ho; have HO390 := aM (ho); replace BK378 := aM (blk_grown (kl BK378) hg (Kd.R_ne HO_3.out BK378.out (by decide))); replace HB := aM (hb); clear HO_3 ho hb hg hat))
            go_roundg k3
            case measure => have := HK1.out; have := HK2.out; have := HK3.out; omega
            case rel => exact ⟨(y388), (wrap64 (x6_3 + 1)), (by first | rfl | (simp; done) | (simp [*]; done)), H', ⟨by have := HK1.out; have := HK2.out; have := HK3.out; omega⟩, ⟨by (with_reducible repeat (first | apply rA | apply rN | apply rD)); exact HO390.out⟩, ⟨by (with_reducible repeat (first | refine kN ?_ _ | refine kD ?_ | refine kA ?_ _)); exact BK378.out⟩, ⟨bl⟩⟩
           ·rw [if_neg c17] at H
            exact absurd H (by simp)
          ·rw [if_neg c16] at H
           exact absurd H (by simp)
         ·rw [if_neg c15] at H
          have c15b0 : decide (x6_3 < (l0_2.length : Int)) = false := decide_eq_false c15
          clear c15
          obtain rfl := Option.some.inj H
          obtain ⟨hcz20_0, hcz20_1, hcz20_2, hfz20_0, hfz20_1, hfz20_2⟩ := bc3 BK378
          go_wp2
          go_ret
          exact ⟨_, by first | rfl | (simp [errW_none, errW_some] <;> rfl) | (simp [*, errW_none, errW_some] <;> rfl), by (with_reducible repeat (first | apply rA | apply rN | apply rD)); exact HO_3.out, bl⟩
def mapmakerref14_Tags.f (k : Nat) (l0_0 : List (S39)) (l0_1 : List (S45)) (l0_2 : List (S51)) (a1_0 : Int) (a1_1 : Int) : Option ((List (S70))) := if a1_0 = 1 then ((mapmakerref14_Node.f k l0_0 l0_1 l0_2 a1_1).bind fun bt393 => (some bt393.2.2.2.1)) else (if a1_0 = 2 then ((mapmakerref14_Way.f k l0_0 l0_1 l0_2 a1_1).bind fun bt401 => (some bt401.2.2.1)) else (if a1_0 = 3 then ((mapmakerref14_Rel.f k l0_0 l0_1 l0_2 a1_1).bind fun bt410 => (some bt410.2.2.1)) else (some ([] : List (S70)))))
theorem mapmakerref14_Tags.mono : ∀ a0 a1 a2 a3 a4 k, LeO (mapmakerref14_Tags.f k a0 a1 a2 a3 a4) (mapmakerref14_Tags.f (k + 1) a0 a1 a2 a3 a4) := by
 intro a0 a1 a2 a3 a4 k
 unfold mapmakerref14_Tags.f
 repeat' first
   | (with_reducible exact mapmakerref14_Node.mono _ _ _ _ _)
   | (with_reducible exact mapmakerref14_Rel.mono _ _ _ _ _)
   | (with_reducible exact mapmakerref14_Way.mono _ _ _ _ _)
   | (with_reducible exact LeO.refl _)
   | (with_reducible exact LeO.none _)
   | (with_reducible refine LeO.ite ?_ ?_)
   | (with_reducible refine LeO.bind ?_ (fun _ => ?_))
   | exact mapmakerref14_Node.mono _ _ _ _ _
   | exact mapmakerref14_Rel.mono _ _ _ _ _
   | exact mapmakerref14_Way.mono _ _ _ _ _
   | exact LeO.none _
   | refine LeO.ite ?_ ?_
   | refine LeO.bind ?_ (fun _ => ?_)
set_option maxHeartbeats 8000000 in
set_option maxRecDepth 100000 in
theorem mapmakerref14_Tags.calls (k : Nat) (P0_0_ : Nat → Prop) (A0_0 : Option Addr) (c0_0 : Nat) (l0_0 : List (S39)) (P0_1_ : Nat → Prop) (A0_1 : Option Addr) (c0_1 : Nat) (l0_1 : List (S45)) (P0_2_ : Nat → Prop) (A0_2 : Option Addr) (c0_2 : Nat) (l0_2 : List (S51)) (a1_0 : Int) (a1_1 : Int) (r : List (S70)) (w : World) (hs0_0 : Kd.V k39 39 w w.heap.size (fun k_ => P0_0_ k_) (.slice A0_0 l0_0.length c0_0) l0_0) (hs0_1 : Kd.V k45 45 w w.heap.size (fun k_ => P0_1_ k_) (.slice A0_1 l0_1.length c0_1) l0_1) (hs0_2 : Kd.V k51 51 w w.heap.size (fun k_ => P0_2_ k_) (.slice A0_2 l0_2.length c0_2) l0_2) (h : mapmakerref14_Tags.f k l0_0 l0_1 l0_2 a1_0 a1_1 = some r) :
  Calls Try.prog 30 #[.agg #[.slice A0_0 l0_0.length c0_0, .slice A0_1 l0_1.length c0_1, .slice A0_2 l0_2.length c0_2], .agg #[.int .i64 a1_0, .int .i64 a1_1]] w fun e w' => ∃ v0_ : Value, e = .returned (v0_) ∧ Kd.V k70 70 w' w.heap.size (fun k_ => ((P0_0_ k_ ∨ P0_1_ k_ ∨ P0_2_ k_) ∨ w.heap.size ≤ k_)) v0_ r ∧ Below w.heap.size w w' := by
 have hu26 := Try.underlying26
 have hu34 := Try.underlying34
 have hu39 := Try.underlying39
 have hu45 := Try.underlying45
 have hu51 := Try.underlying51
 have HO0_0 := aM (show Kd.V k39 39 w w.heap.size (fun k_ => ((P0_0_ k_ ∨ P0_1_ k_ ∨ P0_2_ k_) ∨ w.heap.size ≤ k_)) (.slice A0_0 l0_0.length c0_0) l0_0 from Kd.V_mono hs0_0 (fun k_ hk => .inl (.inl hk)))
 have HO0_1 := aM (show Kd.V k45 45 w w.heap.size (fun k_ => ((P0_0_ k_ ∨ P0_1_ k_ ∨ P0_2_ k_) ∨ w.heap.size ≤ k_)) (.slice A0_1 l0_1.length c0_1) l0_1 from Kd.V_mono hs0_1 (fun k_ hk => .inl (.inr (.inl hk))))
 have HO0_2 := aM (show Kd.V k51 51 w w.heap.size (fun k_ => ((P0_0_ k_ ∨ P0_1_ k_ ∨ P0_2_ k_) ∨ w.heap.size ≤ k_)) (.slice A0_2 l0_2.length c0_2) l0_2 from Kd.V_mono hs0_2 (fun k_ hk => .inl (.inr (.inr hk))))
 have HB := aM (Below.refl w.heap.size w)
 have H : (if a1_0 = 1 then ((mapmakerref14_Node.f k l0_0 l0_1 l0_2 a1_1).bind fun bt393 => (some bt393.2.2.2.1)) else (if a1_0 = 2 then ((mapmakerref14_Way.f k l0_0 l0_1 l0_2 a1_1).bind fun bt401 => (some bt401.2.2.1)) else (if a1_0 = 3 then ((mapmakerref14_Rel.f k l0_0 l0_1 l0_2 a1_1).bind fun bt410 => (some bt410.2.2.1)) else (some ([] : List (S70)))))) = some r := h
 clear h
 by_cases c3 : a1_0 = 1
 ·rw [if_pos c3] at H
  have c3b0 : (a1_0 == 1) = true := beq_iff_eq.mpr c3
  have c3b1 : (a1_0 != 1) = false := bne_eq_false_iff_eq.mpr c3
  clear c3
  replace H := Option.bind_eq_some_iff.mp H
  obtain ⟨⟨t393, t394, t395, t396, t399⟩, A40, H⟩ := H
  replace H : (some t396) = some r := H
  have A4 := aM A40
  clear A40
  obtain rfl := Option.some.inj H
  go_enter Try.func30, Try.ntmps30
  go_wp2_with (first | ((with_reducible refine gate_dst (N := 2) rfl ?_); refine bx (N := 2) (cs := #[.slice A0_0 l0_0.length c0_0, .slice A0_1 l0_1.length c0_1, .slice A0_2 l0_2.length c0_2]) (t := 26) ?_; intro gb391 hg w5 hbox hb; have n0_ := aM (Kd.V_below (Kd.V_elderB (by (with_reducible repeat (first | apply Kd.V_alloc | apply Kd.V_drewN | apply Kd.V_drew)); exact HO0_0.out) gb391 (Nat.le_of_eq hg.symm)) hb); have n1_ := aM (Kd.V_below (Kd.V_elderB (by (with_reducible repeat (first | apply Kd.V_alloc | apply Kd.V_drewN | apply Kd.V_drew)); exact HO0_1.out) gb391 (Nat.le_of_eq hg.symm)) hb); have n2_ := aM (Kd.V_below (Kd.V_elderB (by (with_reducible repeat (first | apply Kd.V_alloc | apply Kd.V_drewN | apply Kd.V_drew)); exact HO0_2.out) gb391 (Nat.le_of_eq hg.symm)) hb); have n3_ := aM (bS (bl) hb); have n4_ := aM (hbox); have n6_ := aM (gw (w := w) hg); (try clear HO0_0); (try clear HO0_1); (try clear HO0_2); (try clear HB); have HO0_0 := n0_; have HO0_1 := n1_; have HO0_2 := n2_; have HB := n3_; have BK391 := n4_; have GE391 := n6_; clear n0_ n1_ n2_ n3_ n4_ n6_ hb hbox hg) | ((with_reducible refine gate_dst (N := 3) rfl ?_); refine bx (N := 3) (cs := #[.int .i64 a1_0, .int .i64 a1_1]) (t := 34) ?_; intro gb392 hg w6 hbox hb; have n0_ := aM (Kd.V_below (Kd.V_elderB (by (with_reducible repeat (first | apply Kd.V_alloc | apply Kd.V_drewN | apply Kd.V_drew)); exact HO0_0.out) gb392 (Nat.le_of_eq hg.symm)) hb); have n1_ := aM (Kd.V_below (Kd.V_elderB (by (with_reducible repeat (first | apply Kd.V_alloc | apply Kd.V_drewN | apply Kd.V_drew)); exact HO0_1.out) gb392 (Nat.le_of_eq hg.symm)) hb); have n2_ := aM (Kd.V_below (Kd.V_elderB (by (with_reducible repeat (first | apply Kd.V_alloc | apply Kd.V_drewN | apply Kd.V_drew)); exact HO0_2.out) gb392 (Nat.le_of_eq hg.symm)) hb); have n3_ := aM (kB (kl BK391) hb); have n4_ := aM (bS (bl) hb); have n5_ := aM (hbox); have n7_ := aM (gw (w := w) hg); have n8_ := aM (nb BK391 hg); have n9_ := aM (nb BK391 hg).symm; (try clear HO0_0); (try clear HO0_1); (try clear HO0_2); (try clear BK391); (try clear HB); have HO0_0 := n0_; have HO0_1 := n1_; have HO0_2 := n2_; have BK391 := n3_; have HB := n4_; have BK392 := n5_; have GE392 := n7_; have NB391_392 := n8_; have NB392_391 := n9_; clear n0_ n1_ n2_ n3_ n4_ n5_ n7_ n8_ n9_ hb hbox hg; have hnb7 := NB392_391.out; have hnc7 := NB391_392.out; obtain ⟨hcz8_0, hcz8_1, hfz8_0, hfz8_1⟩ := bc2 BK392; obtain ⟨hcz9_0, hcz9_1, hcz9_2, hfz9_0, hfz9_1, hfz9_2⟩ := bc3 BK391) | ((with_reducible refine gate_callee (f := 13) rfl ?_); refine gL (some 18) Try.func13 #[.agg #[.slice A0_0 l0_0.length c0_0, .slice A0_1 l0_1.length c0_1, .slice A0_2 l0_2.length c0_2], .int .i64 a1_1] ?_; (with_reducible refine (mapmakerref14_Node.calls k (fun k_ => ((((P0_0_ k_ ∨ P0_1_ k_ ∨ P0_2_ k_) ∨ w.heap.size ≤ k_) ∧ k_ ≠ gb391) ∧ k_ ≠ gb392)) _ _ l0_0 _ _ l0_1 _ _ l0_2 a1_1 t393 t394 t395 t396 t399 _ ?side1 ?side2 ?side3 ?side4 ?side5 A4.out).mono ?_); (case side1 => exact HO0_0.out); (case side2 => repeat (first | exact (Kd.V_reads' HO0_1.out).2.2 | (with_reducible refine cA ?_ _) | (with_reducible refine cN ?_ _) | (with_reducible refine cD ?_))); (case side3 => exact (Kd.V_reads' HO0_1.out).2.1); (case side4 => repeat (first | exact (Kd.V_reads' HO0_2.out).2.2 | (with_reducible refine cA ?_ _) | (with_reducible refine cN ?_ _) | (with_reducible refine cD ?_))); (case side5 => exact (Kd.V_reads' HO0_2.out).2.1); rintro e w10 ⟨v397, rfl, ho0, hb⟩; refine ⟨_, rfl, ?_⟩; have HO398 := aM (Kd.V_lower (Kd.V_mono (ok' := fun k_ => ((P0_0_ k_ ∨ P0_1_ k_ ∨ P0_2_ k_) ∨ w.heap.size ≤ k_) ∧ k_ ≠ gb391 ∧ k_ ≠ gb392) ho0 (fun k_ hk_ => ⟨Or.elim hk_ (fun hs_ => hs_.1.1) (fun hn_ => (.inr (Nat.le_trans (below_size (bl)) hn_))), Or.elim hk_ (fun hs_ => hs_.1.2) (fun hn_ => (Kd.freshB (kl BK391) k_ hn_)), Or.elim hk_ (fun hs_ => hs_.2) (fun hn_ => (Kd.freshB (kl BK392) k_ hn_))⟩)) (below_size (bl))); replace HO0_0 := aM (Kd.V_below (by (with_reducible repeat (first | apply Kd.V_alloc | apply Kd.V_drewN | apply Kd.V_drew)); exact HO0_0.out) hb); replace HO0_1 := aM (Kd.V_below (by (with_reducible repeat (first | apply Kd.V_alloc | apply Kd.V_drewN | apply Kd.V_drew)); exact HO0_1.out) hb); replace HO0_2 := aM (Kd.V_below (by (with_reducible repeat (first | apply Kd.V_alloc | apply Kd.V_drewN | apply Kd.V_drew)); exact HO0_2.out) hb); replace BK391 := aM (kB (kl BK391) hb); replace BK392 := aM (kB (kl BK392) hb); replace HB := aM (bS (bl) hb); (try clear hb); (try clear ho0)) | ((with_reducible refine gate_dst (N := 5) rfl ?_); refine bx (N := 5) (cs := #[.int .i64 0, .int .i64 0, .int .i64 0, .slice none 0 0]) (t := 39) ?_; intro gb400 hg w11 hbox hb; have n0_ := aM (Kd.V_below (Kd.V_elderB (by (with_reducible repeat (first | apply Kd.V_alloc | apply Kd.V_drewN | apply Kd.V_drew)); exact HO0_0.out) gb400 (Nat.le_of_eq hg.symm)) hb); have n1_ := aM (Kd.V_below (Kd.V_elderB (by (with_reducible repeat (first | apply Kd.V_alloc | apply Kd.V_drewN | apply Kd.V_drew)); exact HO0_1.out) gb400 (Nat.le_of_eq hg.symm)) hb); have n2_ := aM (Kd.V_below (Kd.V_elderB (by (with_reducible repeat (first | apply Kd.V_alloc | apply Kd.V_drewN | apply Kd.V_drew)); exact HO0_2.out) gb400 (Nat.le_of_eq hg.symm)) hb); have n3_ := aM (Kd.V_below (Kd.V_elderB (by (with_reducible repeat (first | apply Kd.V_alloc | apply Kd.V_drewN | apply Kd.V_drew)); exact HO398.out) gb400 (Nat.le_of_eq hg.symm)) hb); have n4_ := aM (kB (kl BK391) hb); have n5_ := aM (kB (kl BK392) hb); have n6_ := aM (bS (bl) hb); have n7_ := aM (hbox); have n9_ := aM (gw (w := w) hg); have n10_ := aM (nb BK391 hg); have n11_ := aM (nb BK391 hg).symm; have n12_ := aM (nb BK392 hg); have n13_ := aM (nb BK392 hg).symm; (try clear HO0_0); (try clear HO0_1); (try clear HO0_2); (try clear HO398); (try clear BK391); (try clear BK392); (try clear HB); have HO0_0 := n0_; have HO0_1 := n1_; have HO0_2 := n2_; have HO398 := n3_; have BK391 := n4_; have BK392 := n5_; have HB := n6_; have BK400 := n7_; have GE400 := n9_; have NB391_400 := n10_; have NB400_391 := n11_; have NB392_400 := n12_; have NB400_392 := n13_; clear n0_ n1_ n2_ n3_ n4_ n5_ n6_ n7_ n9_ n10_ n11_ n12_ n13_ hb hbox hg; have hnb12 := NB400_391.out; have hnc12 := NB391_400.out; have hnb13 := NB400_392.out; have hnc13 := NB392_400.out; obtain ⟨hcz14_0, hcz14_1, hcz14_2, hcz14_3, hfz14_0, hfz14_1, hfz14_2, hfz14_3⟩ := bc4 BK400; obtain ⟨Ao15, co15, eo15⟩ := Kd.V_slice HO398.out; subst eo15))
  go_ret
  exact ⟨_, by first | rfl | (simp [errW_none, errW_some] <;> rfl) | (simp [*, errW_none, errW_some] <;> rfl), by (with_reducible repeat (first | apply Kd.V_alloc | apply Kd.V_drewN | apply Kd.V_drew)); exact Kd.V_mono (Kd.V_far (p := ⟨gb400, 3, none⟩) (Kd.V_far (p := ⟨gb400, 2, none⟩) (Kd.V_far (p := ⟨gb400, 1, none⟩) (Kd.V_far (p := ⟨gb400, 0, none⟩) (Kd.V_mono HO398.out (fun k_ hk => (⟨hk, hk.2⟩ : _ ∧ k_ ≠ gb400))) (fun _ hk => hk.2) (.int .i64 t393)) (fun _ hk => hk.2) (.int .i64 t394)) (fun _ hk => hk.2) (.int .i64 t395)) (fun _ hk => hk.2) (.slice Ao15 t396.length co15)) (fun _ hk => hk.1.1.1), bl⟩
 ·rw [if_neg c3] at H
  have c3b0 : (a1_0 == 1) = false := beq_eq_false_iff_ne.mpr c3
  have c3b1 : (a1_0 != 1) = true := bne_iff_ne.mpr c3
  by_cases c16 : a1_0 = 2
  ·rw [if_pos c16] at H
   have c16b0 : (a1_0 == 2) = true := beq_iff_eq.mpr c16
   have c16b1 : (a1_0 != 2) = false := bne_eq_false_iff_eq.mpr c16
   clear c16
   replace H := Option.bind_eq_some_iff.mp H
   obtain ⟨⟨t401, t402, t405, t408⟩, A170, H⟩ := H
   replace H : (some t405) = some r := H
   have A17 := aM A170
   clear A170
   obtain rfl := Option.some.inj H
   go_enter Try.func30, Try.ntmps30
   go_wp2_with (first | ((with_reducible refine gate_dst (N := 2) rfl ?_); refine bx (N := 2) (cs := #[.slice A0_0 l0_0.length c0_0, .slice A0_1 l0_1.length c0_1, .slice A0_2 l0_2.length c0_2]) (t := 26) ?_; intro gb391 hg w18 hbox hb; have n0_ := aM (Kd.V_below (Kd.V_elderB (by (with_reducible repeat (first | apply Kd.V_alloc | apply Kd.V_drewN | apply Kd.V_drew)); exact HO0_0.out) gb391 (Nat.le_of_eq hg.symm)) hb); have n1_ := aM (Kd.V_below (Kd.V_elderB (by (with_reducible repeat (first | apply Kd.V_alloc | apply Kd.V_drewN | apply Kd.V_drew)); exact HO0_1.out) gb391 (Nat.le_of_eq hg.symm)) hb); have n2_ := aM (Kd.V_below (Kd.V_elderB (by (with_reducible repeat (first | apply Kd.V_alloc | apply Kd.V_drewN | apply Kd.V_drew)); exact HO0_2.out) gb391 (Nat.le_of_eq hg.symm)) hb); have n3_ := aM (bS (bl) hb); have n4_ := aM (hbox); have n6_ := aM (gw (w := w) hg); (try clear HO0_0); (try clear HO0_1); (try clear HO0_2); (try clear HB); have HO0_0 := n0_; have HO0_1 := n1_; have HO0_2 := n2_; have HB := n3_; have BK391 := n4_; have GE391 := n6_; clear n0_ n1_ n2_ n3_ n4_ n6_ hb hbox hg) | ((with_reducible refine gate_dst (N := 3) rfl ?_); refine bx (N := 3) (cs := #[.int .i64 a1_0, .int .i64 a1_1]) (t := 34) ?_; intro gb392 hg w19 hbox hb; have n0_ := aM (Kd.V_below (Kd.V_elderB (by (with_reducible repeat (first | apply Kd.V_alloc | apply Kd.V_drewN | apply Kd.V_drew)); exact HO0_0.out) gb392 (Nat.le_of_eq hg.symm)) hb); have n1_ := aM (Kd.V_below (Kd.V_elderB (by (with_reducible repeat (first | apply Kd.V_alloc | apply Kd.V_drewN | apply Kd.V_drew)); exact HO0_1.out) gb392 (Nat.le_of_eq hg.symm)) hb); have n2_ := aM (Kd.V_below (Kd.V_elderB (by (with_reducible repeat (first | apply Kd.V_alloc | apply Kd.V_drewN | apply Kd.V_drew)); exact HO0_2.out) gb392 (Nat.le_of_eq hg.symm)) hb); have n3_ := aM (kB (kl BK391) hb); have n4_ := aM (bS (bl) hb); have n5_ := aM (hbox); have n7_ := aM (gw (w := w) hg); have n8_ := aM (nb BK391 hg); have n9_ := aM (nb BK391 hg).symm; (try clear HO0_0); (try clear HO0_1); (try clear HO0_2); (try clear BK391); (try clear HB); have HO0_0 := n0_; have HO0_1 := n1_; have HO0_2 := n2_; have BK391 := n3_; have HB := n4_; have BK392 := n5_; have GE392 := n7_; have NB391_392 := n8_; have NB392_391 := n9_; clear n0_ n1_ n2_ n3_ n4_ n5_ n7_ n8_ n9_ hb hbox hg; have hnb20 := NB392_391.out; have hnc20 := NB391_392.out; obtain ⟨hcz21_0, hcz21_1, hfz21_0, hfz21_1⟩ := bc2 BK392; obtain ⟨hcz22_0, hcz22_1, hcz22_2, hfz22_0, hfz22_1, hfz22_2⟩ := bc3 BK391) | ((with_reducible refine gate_callee (f := 16) rfl ?_); refine gL (some 30) Try.func16 #[.agg #[.slice A0_0 l0_0.length c0_0, .slice A0_1 l0_1.length c0_1, .slice A0_2 l0_2.length c0_2], .int .i64 a1_1] ?_; (with_reducible refine (mapmakerref14_Way.calls k _ _ l0_0 (fun k_ => ((((P0_0_ k_ ∨ P0_1_ k_ ∨ P0_2_ k_) ∨ w.heap.size ≤ k_) ∧ k_ ≠ gb391) ∧ k_ ≠ gb392)) _ _ l0_1 _ _ l0_2 a1_1 t401 t402 t405 t408 _ ?side1 ?side2 ?side3 ?side4 ?side5 A17.out).mono ?_); (case side1 => repeat (first | exact (Kd.V_reads' HO0_0.out).2.2 | (with_reducible refine cA ?_ _) | (with_reducible refine cN ?_ _) | (with_reducible refine cD ?_))); (case side2 => exact (Kd.V_reads' HO0_0.out).2.1); (case side3 => exact HO0_1.out); (case side4 => repeat (first | exact (Kd.V_reads' HO0_2.out).2.2 | (with_reducible refine cA ?_ _) | (with_reducible refine cN ?_ _) | (with_reducible refine cD ?_))); (case side5 => exact (Kd.V_reads' HO0_2.out).2.1); rintro e w23 ⟨v403, v406, rfl, ho0, ho1, hb⟩; refine ⟨_, rfl, ?_⟩; have HO404 := aM (Kd.V_lower (Kd.V_mono (ok' := fun k_ => ((P0_0_ k_ ∨ P0_1_ k_ ∨ P0_2_ k_) ∨ w.heap.size ≤ k_) ∧ k_ ≠ gb391 ∧ k_ ≠ gb392) ho0 (fun k_ hk_ => ⟨Or.elim hk_ (fun hs_ => hs_.1.1) (fun hn_ => (.inr (Nat.le_trans (below_size (bl)) hn_))), Or.elim hk_ (fun hs_ => hs_.1.2) (fun hn_ => (Kd.freshB (kl BK391) k_ hn_)), Or.elim hk_ (fun hs_ => hs_.2) (fun hn_ => (Kd.freshB (kl BK392) k_ hn_))⟩)) (below_size (bl))); have HO407 := aM (Kd.V_lower (Kd.V_mono (ok' := fun k_ => ((P0_0_ k_ ∨ P0_1_ k_ ∨ P0_2_ k_) ∨ w.heap.size ≤ k_) ∧ k_ ≠ gb391 ∧ k_ ≠ gb392) ho1 (fun k_ hk_ => ⟨Or.elim hk_ (fun hs_ => hs_.1.1) (fun hn_ => (.inr (Nat.le_trans (below_size (bl)) hn_))), Or.elim hk_ (fun hs_ => hs_.1.2) (fun hn_ => (Kd.freshB (kl BK391) k_ hn_)), Or.elim hk_ (fun hs_ => hs_.2) (fun hn_ => (Kd.freshB (kl BK392) k_ hn_))⟩)) (below_size (bl))); replace HO0_0 := aM (Kd.V_below (by (with_reducible repeat (first | apply Kd.V_alloc | apply Kd.V_drewN | apply Kd.V_drew)); exact HO0_0.out) hb); replace HO0_1 := aM (Kd.V_below (by (with_reducible repeat (first | apply Kd.V_alloc | apply Kd.V_drewN | apply Kd.V_drew)); exact HO0_1.out) hb); replace HO0_2 := aM (Kd.V_below (by (with_reducible repeat (first | apply Kd.V_alloc | apply Kd.V_drewN | apply Kd.V_drew)); exact HO0_2.out) hb); replace BK391 := aM (kB (kl BK391) hb); replace BK392 := aM (kB (kl BK392) hb); replace HB := aM (bS (bl) hb); (try clear hb); (try clear ho0); (try clear ho1)) | ((with_reducible refine gate_dst (N := 7) rfl ?_); refine bx (N := 7) (cs := #[.int .i64 0, .slice none 0 0, .slice none 0 0]) (t := 45) ?_; intro gb409 hg w24 hbox hb; have n0_ := aM (Kd.V_below (Kd.V_elderB (by (with_reducible repeat (first | apply Kd.V_alloc | apply Kd.V_drewN | apply Kd.V_drew)); exact HO0_0.out) gb409 (Nat.le_of_eq hg.symm)) hb); have n1_ := aM (Kd.V_below (Kd.V_elderB (by (with_reducible repeat (first | apply Kd.V_alloc | apply Kd.V_drewN | apply Kd.V_drew)); exact HO0_1.out) gb409 (Nat.le_of_eq hg.symm)) hb); have n2_ := aM (Kd.V_below (Kd.V_elderB (by (with_reducible repeat (first | apply Kd.V_alloc | apply Kd.V_drewN | apply Kd.V_drew)); exact HO0_2.out) gb409 (Nat.le_of_eq hg.symm)) hb); have n3_ := aM (Kd.V_below (Kd.V_elderB (by (with_reducible repeat (first | apply Kd.V_alloc | apply Kd.V_drewN | apply Kd.V_drew)); exact HO404.out) gb409 (Nat.le_of_eq hg.symm)) hb); have n4_ := aM (Kd.V_below (Kd.V_elderB (by (with_reducible repeat (first | apply Kd.V_alloc | apply Kd.V_drewN | apply Kd.V_drew)); exact HO407.out) gb409 (Nat.le_of_eq hg.symm)) hb); have n5_ := aM (kB (kl BK391) hb); have n6_ := aM (kB (kl BK392) hb); have n7_ := aM (bS (bl) hb); have n8_ := aM (hbox); have n10_ := aM (gw (w := w) hg); have n11_ := aM (nb BK391 hg); have n12_ := aM (nb BK391 hg).symm; have n13_ := aM (nb BK392 hg); have n14_ := aM (nb BK392 hg).symm; (try clear HO0_0); (try clear HO0_1); (try clear HO0_2); (try clear HO404); (try clear HO407); (try clear BK391); (try clear BK392); (try clear HB); have HO0_0 := n0_; have HO0_1 := n1_; have HO0_2 := n2_; have HO404 := n3_; have HO407 := n4_; have BK391 := n5_; have BK392 := n6_; have HB := n7_; have BK409 := n8_; have GE409 := n10_; have NB391_409 := n11_; have NB409_391 := n12_; have NB392_409 := n13_; have NB409_392 := n14_; clear n0_ n1_ n2_ n3_ n4_ n5_ n6_ n7_ n8_ n10_ n11_ n12_ n13_ n14_ hb hbox hg; have hnb25 := NB409_391.out; have hnc25 := NB391_409.out; have hnb26 := NB409_392.out; have hnc26 := NB392_409.out; obtain ⟨hcz27_0, hcz27_1, hcz27_2, hfz27_0, hfz27_1, hfz27_2⟩ := bc3 BK409; obtain ⟨Ao28, co28, eo28⟩ := Kd.V_slice HO404.out; subst eo28; obtain ⟨Ao29, co29, eo29⟩ := Kd.V_slice HO407.out; subst eo29))
   go_ret
   exact ⟨_, by first | rfl | (simp [errW_none, errW_some] <;> rfl) | (simp [*, errW_none, errW_some] <;> rfl), by (with_reducible repeat (first | apply Kd.V_alloc | apply Kd.V_drewN | apply Kd.V_drew)); exact Kd.V_mono (Kd.V_far (p := ⟨gb409, 2, none⟩) (Kd.V_far (p := ⟨gb409, 1, none⟩) (Kd.V_far (p := ⟨gb409, 0, none⟩) (Kd.V_mono HO407.out (fun k_ hk => (⟨hk, hk.2⟩ : _ ∧ k_ ≠ gb409))) (fun _ hk => hk.2) (.int .i64 t401)) (fun _ hk => hk.2) (.slice Ao28 t402.length co28)) (fun _ hk => hk.2) (.slice Ao29 t405.length co29)) (fun _ hk => hk.1.1.1), bl⟩
  ·rw [if_neg c16] at H
   have c16b0 : (a1_0 == 2) = false := beq_eq_false_iff_ne.mpr c16
   have c16b1 : (a1_0 != 2) = true := bne_iff_ne.mpr c16
   by_cases c30 : a1_0 = 3
   ·rw [if_pos c30] at H
    have c30b0 : (a1_0 == 3) = true := beq_iff_eq.mpr c30
    have c30b1 : (a1_0 != 3) = false := bne_eq_false_iff_eq.mpr c30
    clear c30
    replace H := Option.bind_eq_some_iff.mp H
    obtain ⟨⟨t410, t411, t414, t417⟩, A310, H⟩ := H
    replace H : (some t414) = some r := H
    have A31 := aM A310
    clear A310
    obtain rfl := Option.some.inj H
    go_enter Try.func30, Try.ntmps30
    go_wp2_with (first | ((with_reducible refine gate_dst (N := 2) rfl ?_); refine bx (N := 2) (cs := #[.slice A0_0 l0_0.length c0_0, .slice A0_1 l0_1.length c0_1, .slice A0_2 l0_2.length c0_2]) (t := 26) ?_; intro gb391 hg w32 hbox hb; have n0_ := aM (Kd.V_below (Kd.V_elderB (by (with_reducible repeat (first | apply Kd.V_alloc | apply Kd.V_drewN | apply Kd.V_drew)); exact HO0_0.out) gb391 (Nat.le_of_eq hg.symm)) hb); have n1_ := aM (Kd.V_below (Kd.V_elderB (by (with_reducible repeat (first | apply Kd.V_alloc | apply Kd.V_drewN | apply Kd.V_drew)); exact HO0_1.out) gb391 (Nat.le_of_eq hg.symm)) hb); have n2_ := aM (Kd.V_below (Kd.V_elderB (by (with_reducible repeat (first | apply Kd.V_alloc | apply Kd.V_drewN | apply Kd.V_drew)); exact HO0_2.out) gb391 (Nat.le_of_eq hg.symm)) hb); have n3_ := aM (bS (bl) hb); have n4_ := aM (hbox); have n6_ := aM (gw (w := w) hg); (try clear HO0_0); (try clear HO0_1); (try clear HO0_2); (try clear HB); have HO0_0 := n0_; have HO0_1 := n1_; have HO0_2 := n2_; have HB := n3_; have BK391 := n4_; have GE391 := n6_; clear n0_ n1_ n2_ n3_ n4_ n6_ hb hbox hg) | ((with_reducible refine gate_dst (N := 3) rfl ?_); refine bx (N := 3) (cs := #[.int .i64 a1_0, .int .i64 a1_1]) (t := 34) ?_; intro gb392 hg w33 hbox hb; have n0_ := aM (Kd.V_below (Kd.V_elderB (by (with_reducible repeat (first | apply Kd.V_alloc | apply Kd.V_drewN | apply Kd.V_drew)); exact HO0_0.out) gb392 (Nat.le_of_eq hg.symm)) hb); have n1_ := aM (Kd.V_below (Kd.V_elderB (by (with_reducible repeat (first | apply Kd.V_alloc | apply Kd.V_drewN | apply Kd.V_drew)); exact HO0_1.out) gb392 (Nat.le_of_eq hg.symm)) hb); have n2_ := aM (Kd.V_below (Kd.V_elderB (by (with_reducible repeat (first | apply Kd.V_alloc | apply Kd.V_drewN | apply Kd.V_drew)); exact HO0_2.out) gb392 (Nat.le_of_eq hg.symm)) hb); have n3_ := aM (kB (kl BK391) hb); have n4_ := aM (bS (bl) hb); have n5_ := aM (hbox); have n7_ := aM (gw (w := w) hg); have n8_ := aM (nb BK391 hg); have n9_ := aM (nb BK391 hg).symm; (try clear HO0_0); (try clear HO0_1); (try clear HO0_2); (try clear BK391); (try clear HB); have HO0_0 := n0_; have HO0_1 := n1_; have HO0_2 := n2_; have BK391 := n3_; have HB := n4_; have BK392 := n5_; have GE392 := n7_; have NB391_392 := n8_; have NB392_391 := n9_; clear n0_ n1_ n2_ n3_ n4_ n5_ n7_ n8_ n9_ hb hbox hg; have hnb34 := NB392_391.out; have hnc34 := NB391_392.out; obtain ⟨hcz35_0, hcz35_1, hfz35_0, hfz35_1⟩ := bc2 BK392; obtain ⟨hcz36_0, hcz36_1, hcz36_2, hfz36_0, hfz36_1, hfz36_2⟩ := bc3 BK391) | ((with_reducible refine gate_callee (f := 19) rfl ?_); refine gL (some 42) Try.func19 #[.agg #[.slice A0_0 l0_0.length c0_0, .slice A0_1 l0_1.length c0_1, .slice A0_2 l0_2.length c0_2], .int .i64 a1_1] ?_; (with_reducible refine (mapmakerref14_Rel.calls k _ _ l0_0 _ _ l0_1 (fun k_ => ((((P0_0_ k_ ∨ P0_1_ k_ ∨ P0_2_ k_) ∨ w.heap.size ≤ k_) ∧ k_ ≠ gb391) ∧ k_ ≠ gb392)) _ _ l0_2 a1_1 t410 t411 t414 t417 _ ?side1 ?side2 ?side3 ?side4 ?side5 A31.out).mono ?_); (case side1 => repeat (first | exact (Kd.V_reads' HO0_0.out).2.2 | (with_reducible refine cA ?_ _) | (with_reducible refine cN ?_ _) | (with_reducible refine cD ?_))); (case side2 => exact (Kd.V_reads' HO0_0.out).2.1); (case side3 => repeat (first | exact (Kd.V_reads' HO0_1.out).2.2 | (with_reducible refine cA ?_ _) | (with_reducible refine cN ?_ _) | (with_reducible refine cD ?_))); (case side4 => exact (Kd.V_reads' HO0_1.out).2.1); (case side5 => exact HO0_2.out); rintro e w37 ⟨v412, v415, rfl, ho0, ho1, hb⟩; refine ⟨_, rfl, ?_⟩; have HO413 := aM (Kd.V_lower (Kd.V_mono (ok' := fun k_ => ((P0_0_ k_ ∨ P0_1_ k_ ∨ P0_2_ k_) ∨ w.heap.size ≤ k_) ∧ k_ ≠ gb391 ∧ k_ ≠ gb392) ho0 (fun k_ hk_ => ⟨Or.elim hk_ (fun hs_ => hs_.1.1) (fun hn_ => (.inr (Nat.le_trans (below_size (bl)) hn_))), Or.elim hk_ (fun hs_ => hs_.1.2) (fun hn_ => (Kd.freshB (kl BK391) k_ hn_)), Or.elim hk_ (fun hs_ => hs_.2) (fun hn_ => (Kd.freshB (kl BK392) k_ hn_))⟩)) (below_size (bl))); have HO416 := aM (Kd.V_lower (Kd.V_mono (ok' := fun k_ => ((P0_0_ k_ ∨ P0_1_ k_ ∨ P0_2_ k_) ∨ w.heap.size ≤ k_) ∧ k_ ≠ gb391 ∧ k_ ≠ gb392) ho1 (fun k_ hk_ => ⟨Or.elim hk_ (fun hs_ => hs_.1.1) (fun hn_ => (.inr (Nat.le_trans (below_size (bl)) hn_))), Or.elim hk_ (fun hs_ => hs_.1.2) (fun hn_ => (Kd.freshB (kl BK391) k_ hn_)), Or.elim hk_ (fun hs_ => hs_.2) (fun hn_ => (Kd.freshB (kl BK392) k_ hn_))⟩)) (below_size (bl))); replace HO0_0 := aM (Kd.V_below (by (with_reducible repeat (first | apply Kd.V_alloc | apply Kd.V_drewN | apply Kd.V_drew)); exact HO0_0.out) hb); replace HO0_1 := aM (Kd.V_below (by (with_reducible repeat (first | apply Kd.V_alloc | apply Kd.V_drewN | apply Kd.V_drew)); exact HO0_1.out) hb); replace HO0_2 := aM (Kd.V_below (by (with_reducible repeat (first | apply Kd.V_alloc | apply Kd.V_drewN | apply Kd.V_drew)); exact HO0_2.out) hb); replace BK391 := aM (kB (kl BK391) hb); replace BK392 := aM (kB (kl BK392) hb); replace HB := aM (bS (bl) hb); (try clear hb); (try clear ho0); (try clear ho1)) | ((with_reducible refine gate_dst (N := 9) rfl ?_); refine bx (N := 9) (cs := #[.int .i64 0, .slice none 0 0, .slice none 0 0]) (t := 51) ?_; intro gb418 hg w38 hbox hb; have n0_ := aM (Kd.V_below (Kd.V_elderB (by (with_reducible repeat (first | apply Kd.V_alloc | apply Kd.V_drewN | apply Kd.V_drew)); exact HO0_0.out) gb418 (Nat.le_of_eq hg.symm)) hb); have n1_ := aM (Kd.V_below (Kd.V_elderB (by (with_reducible repeat (first | apply Kd.V_alloc | apply Kd.V_drewN | apply Kd.V_drew)); exact HO0_1.out) gb418 (Nat.le_of_eq hg.symm)) hb); have n2_ := aM (Kd.V_below (Kd.V_elderB (by (with_reducible repeat (first | apply Kd.V_alloc | apply Kd.V_drewN | apply Kd.V_drew)); exact HO0_2.out) gb418 (Nat.le_of_eq hg.symm)) hb); have n3_ := aM (Kd.V_below (Kd.V_elderB (by (with_reducible repeat (first | apply Kd.V_alloc | apply Kd.V_drewN | apply Kd.V_drew)); exact HO413.out) gb418 (Nat.le_of_eq hg.symm)) hb); have n4_ := aM (Kd.V_below (Kd.V_elderB (by (with_reducible repeat (first | apply Kd.V_alloc | apply Kd.V_drewN | apply Kd.V_drew)); exact HO416.out) gb418 (Nat.le_of_eq hg.symm)) hb); have n5_ := aM (kB (kl BK391) hb); have n6_ := aM (kB (kl BK392) hb); have n7_ := aM (bS (bl) hb); have n8_ := aM (hbox); have n10_ := aM (gw (w := w) hg); have n11_ := aM (nb BK391 hg); have n12_ := aM (nb BK391 hg).symm; have n13_ := aM (nb BK392 hg); have n14_ := aM (nb BK392 hg).symm; (try clear HO0_0); (try clear HO0_1); (try clear HO0_2); (try clear HO413); (try clear HO416); (try clear BK391); (try clear BK392); (try clear HB); have HO0_0 := n0_; have HO0_1 := n1_; have HO0_2 := n2_; have HO413 := n3_; have HO416 := n4_; have BK391 := n5_; have BK392 := n6_; have HB := n7_; have BK418 := n8_; have GE418 := n10_; have NB391_418 := n11_; have NB418_391 := n12_; have NB392_418 := n13_; have NB418_392 := n14_; clear n0_ n1_ n2_ n3_ n4_ n5_ n6_ n7_ n8_ n10_ n11_ n12_ n13_ n14_ hb hbox hg; have hnb39 := NB418_391.out; have hnc39 := NB391_418.out; have hnb40 := NB418_392.out; have hnc40 := NB392_418.out; obtain ⟨hcz41_0, hcz41_1, hcz41_2, hfz41_0, hfz41_1, hfz41_2⟩ := bc3 BK418; obtain ⟨Ao42, co42, eo42⟩ := Kd.V_slice HO413.out; subst eo42; obtain ⟨Ao43, co43, eo43⟩ := Kd.V_slice HO416.out; subst eo43))
    go_ret
    exact ⟨_, by first | rfl | (simp [errW_none, errW_some] <;> rfl) | (simp [*, errW_none, errW_some] <;> rfl), by (with_reducible repeat (first | apply Kd.V_alloc | apply Kd.V_drewN | apply Kd.V_drew)); exact Kd.V_mono (Kd.V_far (p := ⟨gb418, 2, none⟩) (Kd.V_far (p := ⟨gb418, 1, none⟩) (Kd.V_far (p := ⟨gb418, 0, none⟩) (Kd.V_mono HO416.out (fun k_ hk => (⟨hk, hk.2⟩ : _ ∧ k_ ≠ gb418))) (fun _ hk => hk.2) (.int .i64 t410)) (fun _ hk => hk.2) (.slice Ao42 t411.length co42)) (fun _ hk => hk.2) (.slice Ao43 t414.length co43)) (fun _ hk => hk.1.1.1), bl⟩
   ·rw [if_neg c30] at H
    have c30b0 : (a1_0 == 3) = false := beq_eq_false_iff_ne.mpr c30
    have c30b1 : (a1_0 != 3) = true := bne_iff_ne.mpr c30
    obtain rfl := Option.some.inj H
    go_enter Try.func30, Try.ntmps30
    go_wp2_with (first | ((with_reducible refine gate_dst (N := 2) rfl ?_); refine bx (N := 2) (cs := #[.slice A0_0 l0_0.length c0_0, .slice A0_1 l0_1.length c0_1, .slice A0_2 l0_2.length c0_2]) (t := 26) ?_; intro gb391 hg w44 hbox hb; have n3_ := aM (bS (bl) hb); have n4_ := aM (hbox); have n6_ := aM (gw (w := w) hg); (try clear HO0_0); (try clear HO0_1); (try clear HO0_2); (try clear HB); have HB := n3_; have BK391 := n4_; have GE391 := n6_; clear n3_ n4_ n6_ hb hbox hg) | ((with_reducible refine gate_dst (N := 3) rfl ?_); refine bx (N := 3) (cs := #[.int .i64 a1_0, .int .i64 a1_1]) (t := 34) ?_; intro gb392 hg w45 hbox hb; have n4_ := aM (bS (bl) hb); have n5_ := aM (hbox); have n7_ := aM (gw (w := w) hg); have n8_ := aM (nb BK391 hg); have n9_ := aM (nb BK391 hg).symm; (try clear BK391); (try clear HB); have HB := n4_; have BK392 := n5_; have GE392 := n7_; have NB391_392 := n8_; have NB392_391 := n9_; clear n4_ n5_ n7_ n8_ n9_ hb hbox hg; have hnb46 := NB392_391.out; have hnc46 := NB391_392.out; obtain ⟨hcz47_0, hcz47_1, hfz47_0, hfz47_1⟩ := bc2 BK392))
    go_ret
    exact ⟨_, by first | rfl | (simp [errW_none, errW_some] <;> rfl) | (simp [*, errW_none, errW_some] <;> rfl), Kd.V_nil _ _ _ _ _, bl⟩
end Go.Proofs.Ytgenbepicnbecaa.PAll
