-- out of a driver of this session's prover over the kit's print: Lean checks it
import Derived.Test.YtefambkodalomaaPAllx0
import Derived.Test.YtefambkodalomaaPAllx4
import Derived.Test.YtefambkodalomaaPAllx5
import Derived.Test.YtefambkodalomaaPAllx10
namespace Go.Proofs.Ytefambkodalomaa.PAll
open Go.Proofs.YtefambkodalomaaG Go.Shelf Go.Lib
open Go.RowKit Go.Proofs.YtefambkodalomaaW.PrintWords Go.Proofs.YtefambkodalomaaW.PrintLast Go.Proofs.YtefambkodalomaaW.PrintMore
attribute [local go_sem] max2_int min2_int max_two min_two max_three min_three max_four min_four   -- for this text's walks alone
set_option linter.unusedVariables false
set_option linter.unusedSimpArgs false
def codec_PutChanges.l0 : Nat → List (S65) → Int → Int → ByteArray → Option (ByteArray)
 | 0, _, _, _, _ => none
 | k + 1, x12, x13, x14, x339000 => if x14 < x13 then (if 0 ≤ x14 then (if x14 < (x12.length : Int) then ((codec_writer_ints.f k x339000 (([(rd_T65 x12 x14).f0, (rd_T65 x12 x14).f1] : List Int))).bind fun t345 => ((change_Check.f ((rd_T65 x12 x14).f0) ((rd_T65 x12 x14).f1) ((rd_T65 x12 x14).f2.f0) ((rd_T65 x12 x14).f2.f1.f0) ((rd_T65 x12 x14).f2.f1.f1) ((rd_T65 x12 x14).f2.f2) ((rd_T65 x12 x14).f3.f0) ((rd_T65 x12 x14).f3.f1) ((rd_T65 x12 x14).f3.f2) ((rd_T65 x12 x14).f4.f0) ((rd_T65 x12 x14).f4.f1) ((rd_T65 x12 x14).f4.f2)).bind fun t346 => (if t346 = 0 then (if ((rd_T65 x12 x14).f0) = 2 then ((change_Ref.f ((rd_T65 x12 x14).f0) ((rd_T65 x12 x14).f1) ((rd_T65 x12 x14).f2.f0) ((rd_T65 x12 x14).f2.f1.f0) ((rd_T65 x12 x14).f2.f1.f1) ((rd_T65 x12 x14).f2.f2) ((rd_T65 x12 x14).f3.f0) ((rd_T65 x12 x14).f3.f1) ((rd_T65 x12 x14).f3.f2) ((rd_T65 x12 x14).f4.f0) ((rd_T65 x12 x14).f4.f1) ((rd_T65 x12 x14).f4.f2)).bind fun bt347 => ((codec_writer_ints.f k t345 (([bt347.2] : List Int))).bind fun t352 => (codec_PutChanges.l0 k x12 x13 (wrap64 (x14 + 1)) t352))) else (if ((rd_T65 x12 x14).f1) = 1 then ((codec_writer_node.f k t345 ((rd_T65 x12 x14).f2.f0) ((rd_T65 x12 x14).f2.f1.f0) ((rd_T65 x12 x14).f2.f1.f1) ((rd_T65 x12 x14).f2.f2)).bind fun t353 => (codec_PutChanges.l0 k x12 x13 (wrap64 (x14 + 1)) t353)) else (if ((rd_T65 x12 x14).f1) = 2 then ((codec_writer_way.f k t345 ((rd_T65 x12 x14).f3.f0) ((rd_T65 x12 x14).f3.f1) ((rd_T65 x12 x14).f3.f2)).bind fun t354 => (codec_PutChanges.l0 k x12 x13 (wrap64 (x14 + 1)) t354)) else ((codec_writer_rel.f k t345 ((rd_T65 x12 x14).f4.f0) ((rd_T65 x12 x14).f4.f1) ((rd_T65 x12 x14).f4.f2)).bind fun t355 => (codec_PutChanges.l0 k x12 x13 (wrap64 (x14 + 1)) t355))))) else (codec_PutChanges.l0 k x12 x13 (wrap64 (x14 + 1)) t345)))) else (none)) else (none)) else (some x339000)
def codec_PutChanges.f (k : Nat) (l0 : List (S65)) : Option (ByteArray) := (codec_writer_count.f k (⟨#[]⟩ : ByteArray) (l0.length : Int)).bind fun t339 => (codec_PutChanges.l0 k l0 (l0.length : Int) 0 t339)
theorem codec_PutChanges.mono_l : ∀ k, (∀ y0 y1 y2 y3, LeO (codec_PutChanges.l0 k y0 y1 y2 y3) (codec_PutChanges.l0 (k + 1) y0 y1 y2 y3))
 | 0 => fun _ _ _ _ r h => by simp [codec_PutChanges.l0] at h
 | k + 1 => by
  have ih0 := codec_PutChanges.mono_l k
  ·intro y0 y1 y2 y3
   unfold codec_PutChanges.l0
   repeat' first
   | (with_reducible exact ih0 _ _ _ _)
   | (with_reducible exact codec_writer_count.mono _ _ _)
   | (with_reducible exact codec_writer_ints.mono _ _ _)
   | (with_reducible exact codec_writer_node.mono _ _ _ _ _ _)
   | (with_reducible exact codec_writer_rel.mono _ _ _ _ _)
   | (with_reducible exact codec_writer_way.mono _ _ _ _ _)
   | (with_reducible exact LeO.refl _)
   | (with_reducible exact LeO.none _)
   | (with_reducible refine LeO.ite ?_ ?_)
   | (with_reducible refine LeO.eB ?_ (fun _ => ?_))
   | (with_reducible refine LeO.bind ?_ (fun _ => ?_))
   | exact ih0 _ _ _ _
   | exact codec_writer_count.mono _ _ _
   | exact codec_writer_ints.mono _ _ _
   | exact codec_writer_node.mono _ _ _ _ _ _
   | exact codec_writer_rel.mono _ _ _ _ _
   | exact codec_writer_way.mono _ _ _ _ _
   | exact LeO.none _
   | refine LeO.ite ?_ ?_
   | refine LeO.bind ?_ (fun _ => ?_)
theorem codec_PutChanges.mono : ∀ a0 k, LeO (codec_PutChanges.f k a0) (codec_PutChanges.f (k + 1) a0) := by
 intro a0 k
 have ih0 := codec_PutChanges.mono_l k
 unfold codec_PutChanges.f
 repeat' first
   | (with_reducible exact ih0 _ _ _ _)
   | (with_reducible exact codec_writer_count.mono _ _ _)
   | (with_reducible exact codec_writer_ints.mono _ _ _)
   | (with_reducible exact codec_writer_node.mono _ _ _ _ _ _)
   | (with_reducible exact codec_writer_rel.mono _ _ _ _ _)
   | (with_reducible exact codec_writer_way.mono _ _ _ _ _)
   | (with_reducible exact LeO.refl _)
   | (with_reducible exact LeO.none _)
   | (with_reducible refine LeO.ite ?_ ?_)
   | (with_reducible refine LeO.eB ?_ (fun _ => ?_))
   | (with_reducible refine LeO.bind ?_ (fun _ => ?_))
   | exact ih0 _ _ _ _
   | exact codec_writer_count.mono _ _ _
   | exact codec_writer_ints.mono _ _ _
   | exact codec_writer_node.mono _ _ _ _ _ _
   | exact codec_writer_rel.mono _ _ _ _ _
   | exact codec_writer_way.mono _ _ _ _ _
   | exact LeO.none _
   | refine LeO.ite ?_ ?_
   | refine LeO.bind ?_ (fun _ => ?_)
set_option maxHeartbeats 8000000 in
set_option maxRecDepth 100000 in
theorem codec_PutChanges.calls (k : Nat) (A0 : Option Addr) (c0 : Nat) (l0 : List (S65)) (r : ByteArray) (w : World) (hr0 : Kd.C k65 w A0 l0.length l0) (hc0 : l0.length ≤ c0) (h : codec_PutChanges.f k l0 = some r) :
  Calls Try.prog 18 #[.slice A0 l0.length c0] w fun e w' => e = .returned (.string r) ∧ Below w.heap.size w w' := by
 have hf61 : ∀ (a b : Int) (w : World), (Instr.field 61 (.agg #[.int .i64 a, .int .i64 b]) 1).run Try.prog w = .ok (.int .i64 b) w := fun a b w => by kernel_rfl
 have hu68 := Try.underlying68
 have hu65 := Try.underlying65
 have hu53 := Try.underlying53
 have hu56 := Try.underlying56
 have hu59 := Try.underlying59
 have HR0 := aM hr0
 have HC0 := aM hc0
 clear hr0 hc0
 have HB := aM (Below.refl w.heap.size w)
 have H : ((codec_writer_count.f k (⟨#[]⟩ : ByteArray) (l0.length : Int)).bind fun t339 => (codec_PutChanges.l0 k l0 (l0.length : Int) 0 t339)) = some r := h
 clear h
 replace H := Option.bind_eq_some_iff.mp H
 obtain ⟨t339, A20, H⟩ := H
 try dsimp only at H
 have A2 := aM A20
 clear A20
 have H' := aM H
 clear H
 go_enter Try.func18, Try.ntmps18
 go_wp2_with (first | ((with_reducible refine gate_dst (N := 7) rfl ?_); refine bx (N := 7) (cs := #[.string (⟨#[]⟩ : ByteArray)]) (t := 68) ?_; intro gb338 hg w3 hbox hb; have n0_ := aM (bS (bl) hb); have n1_ := aM ((show IsS68 w w3 gb338 (⟨#[]⟩ : ByteArray) from ⟨hbox, (by rw [hg]; exact (below_size (bl)) : w.heap.size ≤ gb338)⟩)); (try clear HB); have HB := n0_; have HI338 := n1_; clear n0_ n1_ hb hbox hg) | ((with_reducible refine gate_callee (f := 27) rfl ?_); refine gL (some 11) Try.func27 #[.pointer (some ⟨gb338, 0, none⟩), .int .i64 (l0.length : Int)] ?_; (with_reducible refine (codec_writer_count.calls k gb338 (⟨#[]⟩ : ByteArray) (l0.length : Int) t339 w _ (iS68 HI338) (iB68 HB) A2.out).mono ?_); rintro e w4 ⟨rfl, hi, hb, hk⟩; refine ⟨_, rfl, ?_⟩; replace HB := aM (hb); replace HI338 := aM (hi); (try clear hb); (try clear hk); (try clear hi)))
 go_loopg [14] k (fun kq v14 w' => ∃ (x14_1 : Int) (x339000_1 : ByteArray), v14 = .int .i64 x14_1 ∧ Aside0 (codec_PutChanges.l0 kq l0 (l0.length : Int) x14_1 x339000_1 = some r) ∧ Aside0 (kq ≤ k) ∧ Aside0 (IsS68 w w' gb338 x339000_1) ∧ Aside0 (Below w.heap.size w w'))
 case atStart => exact ⟨(0), (t339), (by first | rfl | (simp; done) | (simp [*]; done)), H', ⟨Nat.le_refl _⟩, ⟨iS68 HI338⟩, ⟨iB68 HB⟩⟩
 case round =>
  clear H'
  try clear c1
  try clear c2
  try clear p2
  obtain ⟨x14_1, x339000_1, rfl, HA, HK1, HI338, HB⟩ := hrel
  cases gk with
  | zero => exact absurd HA.out (by simp [codec_PutChanges.l0])
  | succ k1 =>
   have H := HA.out
   clear HA
   simp only [codec_PutChanges.l0] at H
   by_cases c5 : x14_1 < (l0.length : Int)
   ·rw [if_pos c5] at H
    have c5b0 : decide (x14_1 < (l0.length : Int)) = true := decide_eq_true c5
    clear c5
    by_cases c6 : 0 ≤ x14_1
    ·rw [if_pos c6] at H
     have c6b0 : decide (0 ≤ x14_1) = true := decide_eq_true c6
     clear c6
     by_cases c7 : x14_1 < (l0.length : Int)
     ·rw [if_pos c7] at H
      have c7b0 : decide (x14_1 < (l0.length : Int)) = true := decide_eq_true c7
      clear c7
      obtain ⟨y342, hy342⟩ : ∃ y_ : List Int, y_ = (([(rd_T65 l0 x14_1).f0, (rd_T65 l0 x14_1).f1] : List Int)) := ⟨_, rfl⟩
      replace H : ((codec_writer_ints.f k1 x339000_1 y342).bind fun t345 => ((change_Check.f ((rd_T65 l0 x14_1).f0) ((rd_T65 l0 x14_1).f1) ((rd_T65 l0 x14_1).f2.f0) ((rd_T65 l0 x14_1).f2.f1.f0) ((rd_T65 l0 x14_1).f2.f1.f1) ((rd_T65 l0 x14_1).f2.f2) ((rd_T65 l0 x14_1).f3.f0) ((rd_T65 l0 x14_1).f3.f1) ((rd_T65 l0 x14_1).f3.f2) ((rd_T65 l0 x14_1).f4.f0) ((rd_T65 l0 x14_1).f4.f1) ((rd_T65 l0 x14_1).f4.f2)).bind fun t346 => (if t346 = 0 then (if ((rd_T65 l0 x14_1).f0) = 2 then ((change_Ref.f ((rd_T65 l0 x14_1).f0) ((rd_T65 l0 x14_1).f1) ((rd_T65 l0 x14_1).f2.f0) ((rd_T65 l0 x14_1).f2.f1.f0) ((rd_T65 l0 x14_1).f2.f1.f1) ((rd_T65 l0 x14_1).f2.f2) ((rd_T65 l0 x14_1).f3.f0) ((rd_T65 l0 x14_1).f3.f1) ((rd_T65 l0 x14_1).f3.f2) ((rd_T65 l0 x14_1).f4.f0) ((rd_T65 l0 x14_1).f4.f1) ((rd_T65 l0 x14_1).f4.f2)).bind fun bt347 => ((codec_writer_ints.f k1 t345 (([bt347.2] : List Int))).bind fun t352 => (codec_PutChanges.l0 k1 l0 (l0.length : Int) (wrap64 (x14_1 + 1)) t352))) else (if ((rd_T65 l0 x14_1).f1) = 1 then ((codec_writer_node.f k1 t345 ((rd_T65 l0 x14_1).f2.f0) ((rd_T65 l0 x14_1).f2.f1.f0) ((rd_T65 l0 x14_1).f2.f1.f1) ((rd_T65 l0 x14_1).f2.f2)).bind fun t353 => (codec_PutChanges.l0 k1 l0 (l0.length : Int) (wrap64 (x14_1 + 1)) t353)) else (if ((rd_T65 l0 x14_1).f1) = 2 then ((codec_writer_way.f k1 t345 ((rd_T65 l0 x14_1).f3.f0) ((rd_T65 l0 x14_1).f3.f1) ((rd_T65 l0 x14_1).f3.f2)).bind fun t354 => (codec_PutChanges.l0 k1 l0 (l0.length : Int) (wrap64 (x14_1 + 1)) t354)) else ((codec_writer_rel.f k1 t345 ((rd_T65 l0 x14_1).f4.f0) ((rd_T65 l0 x14_1).f4.f1) ((rd_T65 l0 x14_1).f4.f2)).bind fun t355 => (codec_PutChanges.l0 k1 l0 (l0.length : Int) (wrap64 (x14_1 + 1)) t355))))) else (codec_PutChanges.l0 k1 l0 (l0.length : Int) (wrap64 (x14_1 + 1)) t345)))) = some r := by first | (rw [hy342]; with_reducible exact H) | (have H2_ := (Option.bind_some _ _).symm.trans H; rw [hy342]; with_reducible exact H2_) | (have H2_ := (Option.bind_some _ _).symm.trans H; with_reducible exact H2_) | with_reducible exact H | (rw [hy342]; exact H) | exact H
      have Ny342 := aM hy342
      clear hy342
      replace H := Option.bind_eq_some_iff.mp H
      obtain ⟨t345, A80, H⟩ := H
      try dsimp only at H
      have A8 := aM A80
      clear A80
      replace H := Option.bind_eq_some_iff.mp H
      obtain ⟨t346, A90, H⟩ := H
      try dsimp only at H
      have A9 := aM A90
      clear A90
      by_cases c10 : t346 = 0
      ·rw [if_pos c10] at H
       have c10b0 : (t346 == 0) = true := beq_iff_eq.mpr c10
       have c10b1 : (t346 != 0) = false := bne_eq_false_iff_eq.mpr c10
       clear c10
       by_cases c11 : ((rd_T65 l0 x14_1).f0) = 2
       ·rw [if_pos c11] at H
        have c11b0 : (((rd_T65 l0 x14_1).f0) == 2) = true := beq_iff_eq.mpr c11
        have c11b1 : (((rd_T65 l0 x14_1).f0) != 2) = false := bne_eq_false_iff_eq.mpr c11
        clear c11
        replace H := Option.bind_eq_some_iff.mp H
        obtain ⟨⟨t347, t348⟩, A120, H⟩ := H
        replace H : ((codec_writer_ints.f k1 t345 (([t348] : List Int))).bind fun t352 => (codec_PutChanges.l0 k1 l0 (l0.length : Int) (wrap64 (x14_1 + 1)) t352)) = some r := H
        have A12 := aM A120
        clear A120
        obtain ⟨y349, hy349⟩ : ∃ y_ : List Int, y_ = (([t348] : List Int)) := ⟨_, rfl⟩
        replace H : ((codec_writer_ints.f k1 t345 y349).bind fun t352 => (codec_PutChanges.l0 k1 l0 (l0.length : Int) (wrap64 (x14_1 + 1)) t352)) = some r := by first | (rw [hy349]; with_reducible exact H) | (have H2_ := (Option.bind_some _ _).symm.trans H; rw [hy349]; with_reducible exact H2_) | (have H2_ := (Option.bind_some _ _).symm.trans H; with_reducible exact H2_) | with_reducible exact H | (rw [hy349]; exact H) | exact H
        have Ny349 := aM hy349
        clear hy349
        replace H := Option.bind_eq_some_iff.mp H
        obtain ⟨t352, A130, H⟩ := H
        try dsimp only at H
        have A13 := aM A130
        clear A130
        have H' := aM H
        clear H
        have p340 : 0 ≤ (x14_1 : Int) := oT
        have q340 : x14_1 < (l0.length : Int) := oT
        obtain ⟨ad340, A340_5, c340_5, A340_7, c340_7, A340_8, c340_8, A340_10, c340_10, A340_11, c340_11, e340, hx340_0, hx340_1, hx340_2, hx340_3, hx340_4, hx340_5, hx340_6, hx340_7, hx340_8, hx340_9, hx340_10, hx340_11, hl340_5, hi340_5, hl340_7, hi340_7, hl340_8, hi340_8, hl340_10, hi340_10, hl340_11, hi340_11⟩ := at_T65 HR0.out x14_1 p340 q340
        cases e340
        replace hx340_0 := hs HB.out hx340_0
        replace hx340_1 := hs HB.out hx340_1
        replace hx340_2 := hs HB.out hx340_2
        replace hx340_3 := hs HB.out hx340_3
        replace hx340_4 := hs HB.out hx340_4
        replace hx340_5 := hs HB.out hx340_5
        replace hx340_6 := hs HB.out hx340_6
        replace hx340_7 := hs HB.out hx340_7
        replace hx340_8 := hs HB.out hx340_8
        replace hx340_9 := hs HB.out hx340_9
        replace hx340_10 := hs HB.out hx340_10
        replace hx340_11 := hs HB.out hx340_11
        have HR340_5 := aM hi340_5
        have HC340_5 := aM hl340_5
        clear hi340_5 hl340_5
        have HR340_7 := aM hi340_7
        have HC340_7 := aM hl340_7
        clear hi340_7 hl340_7
        have HR340_8 := aM hi340_8
        have HC340_8 := aM hl340_8
        clear hi340_8 hl340_8
        have HR340_10 := aM hi340_10
        have HC340_10 := aM hl340_10
        clear hi340_10 hl340_10
        have HR340_11 := aM hi340_11
        have HC340_11 := aM hl340_11
        clear hi340_11 hl340_11
        replace p340 := eq_true p340
        replace q340 := eq_true q340
        go_wp2_with (first | ((with_reducible refine gate_dst (N := 5) rfl ?_); refine bx (N := 5) (cs := #[.int .i64 0, .int .i64 0, .int .i64 0, .int .i64 0, .int .i64 0, .slice none 0 0, .int .i64 0, .slice none 0 0, .slice none 0 0, .int .i64 0, .slice none 0 0, .slice none 0 0]) (t := 65) ?_; intro gb341 hg w14 hbox hb; have n0_ := aM (IsS68.below (iS68 HI338) hb); have n1_ := aM (bS (iB68 HB) hb); have n2_ := aM (hbox); have n4_ := aM ((by rw [hg]; exact (below_size (iB68 HB)) : w.heap.size ≤ gb341)); have n5_ := aM (ni68 HI338 hg); have n6_ := aM (ni68 HI338 hg).symm; (try clear HI338); (try clear HB); have HI338 := n0_; have HB := n1_; have BK341 := n2_; have GE341 := n4_; have NB338_341 := n5_; have NB341_338 := n6_; clear n0_ n1_ n2_ n4_ n5_ n6_ hb hbox hg; obtain ⟨hnb15, hnc15⟩ := nn NB341_338; obtain ⟨hcz16_0, hcz16_1, hcz16_2, hcz16_3, hcz16_4, hcz16_5, hcz16_6, hcz16_7, hcz16_8, hcz16_9, hcz16_10, hcz16_11, hfz16_0, hfz16_1, hfz16_2, hfz16_3, hfz16_4, hfz16_5, hfz16_6, hfz16_7, hfz16_8, hfz16_9, hfz16_10, hfz16_11⟩ := bc12 BK341) | ((with_reducible refine gate_dst (N := 23) rfl ?_); refine Kd.R_lit (Kd.int .i64) _ 3 ?hg (N := 23) ?hd (xs := ([(rd_T65 l0 x14_1).f0, (rd_T65 l0 x14_1).f1] : List Int)) (inner := [.int .i64 ((rd_T65 l0 x14_1).f0), .int .i64 ((rd_T65 l0 x14_1).f1)]) (ok := fun _ => True) (okp := fun _ => True) ?hr ?hp (fun _ hk => hk) trivial (Below.refl _ _) (Nat.le_refl _) (by simp) ?_; (case hd => rfl); (case hg => rfl); (case hr => first | (go_simp; done) | (go_simp; rfl)); (case hp => exact (Reps.one (show Kd.M (Kd.int .i64) _ _ _ ((rd_T65 l0 x14_1).f0) [.int .i64 ((rd_T65 l0 x14_1).f0)] from rfl) (Reps.one (show Kd.M (Kd.int .i64) _ _ _ ((rd_T65 l0 x14_1).f1) [.int .i64 ((rd_T65 l0 x14_1).f1)] from rfl) (Reps.none _ _)))); intro v343 w17 ho18 hb hg_ hnew_; clear hg_ hnew_; (first | rw [← Ny342.out] at ho18 | (simp only [Int.reduceToNat] at ho18; rw [← Ny342.out] at ho18)); have HO344 := aM (Kd.R_lower ho18 (below_size (iB68 HB))); replace HI338 := aM (IsS68.below (show IsS68 w ((((((((((((w14.setCell ⟨gb341, 0, none⟩ (.int .i64 ((rd_T65 l0 x14_1).f0))).setCell ⟨gb341, 1, none⟩ (.int .i64 ((rd_T65 l0 x14_1).f1))).setCell ⟨gb341, 2, none⟩ (.int .i64 ((rd_T65 l0 x14_1).f2.f0))).setCell ⟨gb341, 3, none⟩ (.int .i64 ((rd_T65 l0 x14_1).f2.f1.f0))).setCell ⟨gb341, 4, none⟩ (.int .i64 ((rd_T65 l0 x14_1).f2.f1.f1))).setCell ⟨gb341, 5, none⟩ (.slice A340_5 ((rd_T65 l0 x14_1).f2.f2).length c340_5)).setCell ⟨gb341, 6, none⟩ (.int .i64 ((rd_T65 l0 x14_1).f3.f0))).setCell ⟨gb341, 7, none⟩ (.slice A340_7 ((rd_T65 l0 x14_1).f3.f1).length c340_7)).setCell ⟨gb341, 8, none⟩ (.slice A340_8 ((rd_T65 l0 x14_1).f3.f2).length c340_8)).setCell ⟨gb341, 9, none⟩ (.int .i64 ((rd_T65 l0 x14_1).f4.f0))).setCell ⟨gb341, 10, none⟩ (.slice A340_10 ((rd_T65 l0 x14_1).f4.f1).length c340_10)).setCell ⟨gb341, 11, none⟩ (.slice A340_11 ((rd_T65 l0 x14_1).f4.f2).length c340_11)) gb338 x339000_1 from iS68 HI338) hb); replace BK341 := aM (kB (g := gb341) (o := .cells #[.int .i64 ((rd_T65 l0 x14_1).f0), .int .i64 ((rd_T65 l0 x14_1).f1), .int .i64 ((rd_T65 l0 x14_1).f2.f0), .int .i64 ((rd_T65 l0 x14_1).f2.f1.f0), .int .i64 ((rd_T65 l0 x14_1).f2.f1.f1), .slice A340_5 ((rd_T65 l0 x14_1).f2.f2).length c340_5, .int .i64 ((rd_T65 l0 x14_1).f3.f0), .slice A340_7 ((rd_T65 l0 x14_1).f3.f1).length c340_7, .slice A340_8 ((rd_T65 l0 x14_1).f3.f2).length c340_8, .int .i64 ((rd_T65 l0 x14_1).f4.f0), .slice A340_10 ((rd_T65 l0 x14_1).f4.f1).length c340_10, .slice A340_11 ((rd_T65 l0 x14_1).f4.f2).length c340_11] 65 (0, 0)) (bk BK341) hb); replace HB := aM (bS (iB68 HB) hb); clear hb ho18; obtain ⟨Ao19, co19, eo19⟩ := Kd.R_slice HO344.out; subst eo19) | ((with_reducible refine gate_callee (f := 50) rfl ?_); refine gL (some 24) Try.func50 #[.pointer (some ⟨gb338, 0, none⟩), .slice Ao19 y342.length co19] ?_; (with_reducible refine (codec_writer_ints.calls k1 gb338 x339000_1 _ _ y342 t345 w _ (iS68 HI338) (iB68 HB) ?side3 ?side4 ?side5 A8.out).mono ?_); (case side3 => repeat (first | exact (rR HO344.out).2.2 | (with_reducible refine cA ?_ _) | (with_reducible refine cN ?_ _) | (with_reducible refine cD ?_))); (case side4 => exact (rR HO344.out).2.1); (case side5 => exact far_slice (IsS68.own_ne HI338.out HO344.out (by decide))); rintro e w20 ⟨rfl, hi, hb, hk⟩; refine ⟨_, rfl, ?_⟩; replace BK341 := aM (k0 hk BK341 NB341_338); replace HO344 := aM (rM (Kd.R_keep (IsS68.apart (show IsS68 w _ gb338 x339000_1 from iS68 HI338) (rl HO344) (by decide)) hk (fun _ h => h.2)) (fun _ h => h.1)); replace HB := aM (hb); replace HI338 := aM (hi); (try clear hb); (try clear hk); (try clear hi); obtain ⟨hcz21_0, hcz21_1, hcz21_2, hcz21_3, hcz21_4, hcz21_5, hcz21_6, hcz21_7, hcz21_8, hcz21_9, hcz21_10, hcz21_11, hfz21_0, hfz21_1, hfz21_2, hfz21_3, hfz21_4, hfz21_5, hfz21_6, hfz21_7, hfz21_8, hfz21_9, hfz21_10, hfz21_11⟩ := bc12 BK341) | ((with_reducible refine gate_callee (f := 51) rfl ?_); refine gL (some 31) Try.func51 #[.agg #[.int .i64 ((rd_T65 l0 x14_1).f0), .int .i64 ((rd_T65 l0 x14_1).f1), .int .i64 ((rd_T65 l0 x14_1).f2.f0), .int .i64 ((rd_T65 l0 x14_1).f2.f1.f0), .int .i64 ((rd_T65 l0 x14_1).f2.f1.f1), .slice A340_5 ((rd_T65 l0 x14_1).f2.f2).length c340_5, .int .i64 ((rd_T65 l0 x14_1).f3.f0), .slice A340_7 ((rd_T65 l0 x14_1).f3.f1).length c340_7, .slice A340_8 ((rd_T65 l0 x14_1).f3.f2).length c340_8, .int .i64 ((rd_T65 l0 x14_1).f4.f0), .slice A340_10 ((rd_T65 l0 x14_1).f4.f1).length c340_10, .slice A340_11 ((rd_T65 l0 x14_1).f4.f2).length c340_11]] ?_; (with_reducible refine (change_Check.calls ((rd_T65 l0 x14_1).f0) ((rd_T65 l0 x14_1).f1) ((rd_T65 l0 x14_1).f2.f0) ((rd_T65 l0 x14_1).f2.f1.f0) ((rd_T65 l0 x14_1).f2.f1.f1) _ _ ((rd_T65 l0 x14_1).f2.f2) ((rd_T65 l0 x14_1).f3.f0) _ _ ((rd_T65 l0 x14_1).f3.f1) _ _ ((rd_T65 l0 x14_1).f3.f2) ((rd_T65 l0 x14_1).f4.f0) _ _ ((rd_T65 l0 x14_1).f4.f1) _ _ ((rd_T65 l0 x14_1).f4.f2) t346 _ ?side1 ?side2 ?side3 ?side4 ?side5 ?side6 ?side7 ?side8 ?side9 ?side10 A9.out).mono ?_); (case side1 => exact cl HR340_5); (case side2 => exact HC340_5.out); (case side3 => exact cl HR340_7); (case side4 => exact HC340_7.out); (case side5 => exact cl HR340_8); (case side6 => exact HC340_8.out); (case side7 => exact cl HR340_10); (case side8 => exact HC340_10.out); (case side9 => exact cl HR340_11); (case side10 => exact HC340_11.out); rintro e w22 ⟨rfl, hb⟩; refine ⟨_, rfl, ?_⟩; replace HO344 := aM (rB (rl HO344) hb); replace HI338 := aM (IsS68.below (iS68 HI338) hb); replace BK341 := aM (kB (kl BK341) hb); replace HB := aM (bS (iB68 HB) hb); (try clear hb); obtain ⟨hcz23_0, hcz23_1, hcz23_2, hcz23_3, hcz23_4, hcz23_5, hcz23_6, hcz23_7, hcz23_8, hcz23_9, hcz23_10, hcz23_11, hfz23_0, hfz23_1, hfz23_2, hfz23_3, hfz23_4, hfz23_5, hfz23_6, hfz23_7, hfz23_8, hfz23_9, hfz23_10, hfz23_11⟩ := bc12 BK341) | ((with_reducible refine gate_callee (f := 52) rfl ?_); refine gL (some 39) Try.func52 #[.agg #[.int .i64 ((rd_T65 l0 x14_1).f0), .int .i64 ((rd_T65 l0 x14_1).f1), .int .i64 ((rd_T65 l0 x14_1).f2.f0), .int .i64 ((rd_T65 l0 x14_1).f2.f1.f0), .int .i64 ((rd_T65 l0 x14_1).f2.f1.f1), .slice A340_5 ((rd_T65 l0 x14_1).f2.f2).length c340_5, .int .i64 ((rd_T65 l0 x14_1).f3.f0), .slice A340_7 ((rd_T65 l0 x14_1).f3.f1).length c340_7, .slice A340_8 ((rd_T65 l0 x14_1).f3.f2).length c340_8, .int .i64 ((rd_T65 l0 x14_1).f4.f0), .slice A340_10 ((rd_T65 l0 x14_1).f4.f1).length c340_10, .slice A340_11 ((rd_T65 l0 x14_1).f4.f2).length c340_11]] ?_; (with_reducible refine (change_Ref.calls ((rd_T65 l0 x14_1).f0) ((rd_T65 l0 x14_1).f1) ((rd_T65 l0 x14_1).f2.f0) ((rd_T65 l0 x14_1).f2.f1.f0) ((rd_T65 l0 x14_1).f2.f1.f1) _ _ ((rd_T65 l0 x14_1).f2.f2) ((rd_T65 l0 x14_1).f3.f0) _ _ ((rd_T65 l0 x14_1).f3.f1) _ _ ((rd_T65 l0 x14_1).f3.f2) ((rd_T65 l0 x14_1).f4.f0) _ _ ((rd_T65 l0 x14_1).f4.f1) _ _ ((rd_T65 l0 x14_1).f4.f2) t347 t348 _ ?side1 ?side2 ?side3 ?side4 ?side5 ?side6 ?side7 ?side8 ?side9 ?side10 A12.out).mono ?_); (case side1 => exact cl HR340_5); (case side2 => exact HC340_5.out); (case side3 => exact cl HR340_7); (case side4 => exact HC340_7.out); (case side5 => exact cl HR340_8); (case side6 => exact HC340_8.out); (case side7 => exact cl HR340_10); (case side8 => exact HC340_10.out); (case side9 => exact cl HR340_11); (case side10 => exact HC340_11.out); rintro e w24 ⟨rfl, hb⟩; refine ⟨_, rfl, ?_⟩; replace HO344 := aM (rB (rl HO344) hb); replace HI338 := aM (IsS68.below (iS68 HI338) hb); replace BK341 := aM (kB (kl BK341) hb); replace HB := aM (bS (iB68 HB) hb); (try clear hb)) | ((with_reducible refine gate_dst (N := 41) rfl ?_); refine Kd.R_lit (Kd.int .i64) _ 3 ?hg (N := 41) ?hd (xs := ([t348] : List Int)) (inner := [.int .i64 t348]) (ok := fun _ => True) (okp := fun _ => True) ?hr ?hp (fun _ hk => hk) trivial (Below.refl _ _) (Nat.le_refl _) (by simp) ?_; (case hd => rfl); (case hg => rfl); (case hr => first | (go_simp; done) | (go_simp; rfl)); (case hp => exact (Reps.one (show Kd.M (Kd.int .i64) _ _ _ t348 [.int .i64 t348] from rfl) (Reps.none _ _))); intro v350 w25 ho26 hb hg_ hnew_; clear hg_ hnew_; (first | rw [← Ny349.out] at ho26 | (simp only [Int.reduceToNat] at ho26; rw [← Ny349.out] at ho26)); have HO351 := aM (Kd.R_lower (Kd.R_new' ho26 (Kd.R_lt (rl HO344))) (below_size (iB68 HB))); replace HO344 := aM (rE (rl HO344) (Kd.R_base ho26) hb); replace HI338 := aM (IsS68.below (iS68 HI338) hb); replace BK341 := aM (kB (kl BK341) hb); replace HB := aM (bS (iB68 HB) hb); clear hb ho26; obtain ⟨Ao27, co27, eo27⟩ := Kd.R_slice HO351.out; subst eo27) | ((with_reducible refine gate_callee (f := 50) rfl ?_); refine gL (some 42) Try.func50 #[.pointer (some ⟨gb338, 0, none⟩), .slice Ao27 y349.length co27] ?_; (with_reducible refine (codec_writer_ints.calls k1 gb338 t345 _ _ y349 t352 w _ (iS68 HI338) (iB68 HB) ?side3 ?side4 ?side5 A13.out).mono ?_); (case side3 => repeat (first | exact (rR HO351.out).2.2 | (with_reducible refine cA ?_ _) | (with_reducible refine cN ?_ _) | (with_reducible refine cD ?_))); (case side4 => exact (rR HO351.out).2.1); (case side5 => exact far_slice (IsS68.own_ne HI338.out HO351.out (by decide))); rintro e w28 ⟨rfl, hi, hb, hk⟩; refine ⟨_, rfl, ?_⟩; replace BK341 := aM (k0 hk BK341 NB341_338); replace HO344 := aM (rM (Kd.R_keep (IsS68.apart (show IsS68 w _ gb338 t345 from iS68 HI338) (rl HO344) (by decide)) hk (fun _ h => h.2)) (fun _ h => h.1)); replace HO351 := aM (rM (Kd.R_keep (IsS68.apart (show IsS68 w _ gb338 t345 from iS68 HI338) (rl HO351) (by decide)) hk (fun _ h => h.2)) (fun _ h => h.1)); replace HB := aM (hb); replace HI338 := aM (hi); (try clear hb); (try clear hk); (try clear hi)))
        go_roundg k1
        case measure => have := HK1.out; omega
        case rel => exact ⟨(wrap64 (x14_1 + 1)), (t352), (by first | rfl | (simp; done) | (simp [*]; done)), H', ⟨by have := HK1.out; omega⟩, ⟨iS68 HI338⟩, ⟨iB68 HB⟩⟩
       ·rw [if_neg c11] at H
        have c11b0 : (((rd_T65 l0 x14_1).f0) == 2) = false := beq_eq_false_iff_ne.mpr c11
        have c11b1 : (((rd_T65 l0 x14_1).f0) != 2) = true := bne_iff_ne.mpr c11
        by_cases c29 : ((rd_T65 l0 x14_1).f1) = 1
        ·rw [if_pos c29] at H
         have c29b0 : (((rd_T65 l0 x14_1).f1) == 1) = true := beq_iff_eq.mpr c29
         have c29b1 : (((rd_T65 l0 x14_1).f1) != 1) = false := bne_eq_false_iff_eq.mpr c29
         clear c29
         replace H := Option.bind_eq_some_iff.mp H
         obtain ⟨t353, A300, H⟩ := H
         try dsimp only at H
         have A30 := aM A300
         clear A300
         have H' := aM H
         clear H
         have p340 : 0 ≤ (x14_1 : Int) := oT
         have q340 : x14_1 < (l0.length : Int) := oT
         obtain ⟨ad340, A340_5, c340_5, A340_7, c340_7, A340_8, c340_8, A340_10, c340_10, A340_11, c340_11, e340, hx340_0, hx340_1, hx340_2, hx340_3, hx340_4, hx340_5, hx340_6, hx340_7, hx340_8, hx340_9, hx340_10, hx340_11, hl340_5, hi340_5, hl340_7, hi340_7, hl340_8, hi340_8, hl340_10, hi340_10, hl340_11, hi340_11⟩ := at_T65 HR0.out x14_1 p340 q340
         cases e340
         replace hx340_0 := hs HB.out hx340_0
         replace hx340_1 := hs HB.out hx340_1
         replace hx340_2 := hs HB.out hx340_2
         replace hx340_3 := hs HB.out hx340_3
         replace hx340_4 := hs HB.out hx340_4
         replace hx340_5 := hs HB.out hx340_5
         replace hx340_6 := hs HB.out hx340_6
         replace hx340_7 := hs HB.out hx340_7
         replace hx340_8 := hs HB.out hx340_8
         replace hx340_9 := hs HB.out hx340_9
         replace hx340_10 := hs HB.out hx340_10
         replace hx340_11 := hs HB.out hx340_11
         have HR340_5 := aM hi340_5
         have HC340_5 := aM hl340_5
         clear hi340_5 hl340_5
         have HR340_7 := aM hi340_7
         have HC340_7 := aM hl340_7
         clear hi340_7 hl340_7
         have HR340_8 := aM hi340_8
         have HC340_8 := aM hl340_8
         clear hi340_8 hl340_8
         have HR340_10 := aM hi340_10
         have HC340_10 := aM hl340_10
         clear hi340_10 hl340_10
         have HR340_11 := aM hi340_11
         have HC340_11 := aM hl340_11
         clear hi340_11 hl340_11
         replace p340 := eq_true p340
         replace q340 := eq_true q340
         go_wp2_with (first | ((with_reducible refine gate_dst (N := 5) rfl ?_); refine bx (N := 5) (cs := #[.int .i64 0, .int .i64 0, .int .i64 0, .int .i64 0, .int .i64 0, .slice none 0 0, .int .i64 0, .slice none 0 0, .slice none 0 0, .int .i64 0, .slice none 0 0, .slice none 0 0]) (t := 65) ?_; intro gb341 hg w31 hbox hb; have n0_ := aM (IsS68.below (iS68 HI338) hb); have n1_ := aM (bS (iB68 HB) hb); have n2_ := aM (hbox); have n4_ := aM ((by rw [hg]; exact (below_size (iB68 HB)) : w.heap.size ≤ gb341)); have n5_ := aM (ni68 HI338 hg); have n6_ := aM (ni68 HI338 hg).symm; (try clear HI338); (try clear HB); have HI338 := n0_; have HB := n1_; have BK341 := n2_; have GE341 := n4_; have NB338_341 := n5_; have NB341_338 := n6_; clear n0_ n1_ n2_ n4_ n5_ n6_ hb hbox hg; obtain ⟨hnb32, hnc32⟩ := nn NB341_338; obtain ⟨hcz33_0, hcz33_1, hcz33_2, hcz33_3, hcz33_4, hcz33_5, hcz33_6, hcz33_7, hcz33_8, hcz33_9, hcz33_10, hcz33_11, hfz33_0, hfz33_1, hfz33_2, hfz33_3, hfz33_4, hfz33_5, hfz33_6, hfz33_7, hfz33_8, hfz33_9, hfz33_10, hfz33_11⟩ := bc12 BK341) | ((with_reducible refine gate_dst (N := 23) rfl ?_); refine Kd.R_lit (Kd.int .i64) _ 3 ?hg (N := 23) ?hd (xs := ([(rd_T65 l0 x14_1).f0, (rd_T65 l0 x14_1).f1] : List Int)) (inner := [.int .i64 ((rd_T65 l0 x14_1).f0), .int .i64 ((rd_T65 l0 x14_1).f1)]) (ok := fun _ => True) (okp := fun _ => True) ?hr ?hp (fun _ hk => hk) trivial (Below.refl _ _) (Nat.le_refl _) (by simp) ?_; (case hd => rfl); (case hg => rfl); (case hr => first | (go_simp; done) | (go_simp; rfl)); (case hp => exact (Reps.one (show Kd.M (Kd.int .i64) _ _ _ ((rd_T65 l0 x14_1).f0) [.int .i64 ((rd_T65 l0 x14_1).f0)] from rfl) (Reps.one (show Kd.M (Kd.int .i64) _ _ _ ((rd_T65 l0 x14_1).f1) [.int .i64 ((rd_T65 l0 x14_1).f1)] from rfl) (Reps.none _ _)))); intro v343 w34 ho35 hb hg_ hnew_; clear hg_ hnew_; (first | rw [← Ny342.out] at ho35 | (simp only [Int.reduceToNat] at ho35; rw [← Ny342.out] at ho35)); have HO344 := aM (Kd.R_lower ho35 (below_size (iB68 HB))); replace HI338 := aM (IsS68.below (show IsS68 w ((((((((((((w31.setCell ⟨gb341, 0, none⟩ (.int .i64 ((rd_T65 l0 x14_1).f0))).setCell ⟨gb341, 1, none⟩ (.int .i64 ((rd_T65 l0 x14_1).f1))).setCell ⟨gb341, 2, none⟩ (.int .i64 ((rd_T65 l0 x14_1).f2.f0))).setCell ⟨gb341, 3, none⟩ (.int .i64 ((rd_T65 l0 x14_1).f2.f1.f0))).setCell ⟨gb341, 4, none⟩ (.int .i64 ((rd_T65 l0 x14_1).f2.f1.f1))).setCell ⟨gb341, 5, none⟩ (.slice A340_5 ((rd_T65 l0 x14_1).f2.f2).length c340_5)).setCell ⟨gb341, 6, none⟩ (.int .i64 ((rd_T65 l0 x14_1).f3.f0))).setCell ⟨gb341, 7, none⟩ (.slice A340_7 ((rd_T65 l0 x14_1).f3.f1).length c340_7)).setCell ⟨gb341, 8, none⟩ (.slice A340_8 ((rd_T65 l0 x14_1).f3.f2).length c340_8)).setCell ⟨gb341, 9, none⟩ (.int .i64 ((rd_T65 l0 x14_1).f4.f0))).setCell ⟨gb341, 10, none⟩ (.slice A340_10 ((rd_T65 l0 x14_1).f4.f1).length c340_10)).setCell ⟨gb341, 11, none⟩ (.slice A340_11 ((rd_T65 l0 x14_1).f4.f2).length c340_11)) gb338 x339000_1 from iS68 HI338) hb); replace BK341 := aM (kB (g := gb341) (o := .cells #[.int .i64 ((rd_T65 l0 x14_1).f0), .int .i64 ((rd_T65 l0 x14_1).f1), .int .i64 ((rd_T65 l0 x14_1).f2.f0), .int .i64 ((rd_T65 l0 x14_1).f2.f1.f0), .int .i64 ((rd_T65 l0 x14_1).f2.f1.f1), .slice A340_5 ((rd_T65 l0 x14_1).f2.f2).length c340_5, .int .i64 ((rd_T65 l0 x14_1).f3.f0), .slice A340_7 ((rd_T65 l0 x14_1).f3.f1).length c340_7, .slice A340_8 ((rd_T65 l0 x14_1).f3.f2).length c340_8, .int .i64 ((rd_T65 l0 x14_1).f4.f0), .slice A340_10 ((rd_T65 l0 x14_1).f4.f1).length c340_10, .slice A340_11 ((rd_T65 l0 x14_1).f4.f2).length c340_11] 65 (0, 0)) (bk BK341) hb); replace HB := aM (bS (iB68 HB) hb); clear hb ho35; obtain ⟨Ao36, co36, eo36⟩ := Kd.R_slice HO344.out; subst eo36) | ((with_reducible refine gate_callee (f := 50) rfl ?_); refine gL (some 24) Try.func50 #[.pointer (some ⟨gb338, 0, none⟩), .slice Ao36 y342.length co36] ?_; (with_reducible refine (codec_writer_ints.calls k1 gb338 x339000_1 _ _ y342 t345 w _ (iS68 HI338) (iB68 HB) ?side3 ?side4 ?side5 A8.out).mono ?_); (case side3 => repeat (first | exact (rR HO344.out).2.2 | (with_reducible refine cA ?_ _) | (with_reducible refine cN ?_ _) | (with_reducible refine cD ?_))); (case side4 => exact (rR HO344.out).2.1); (case side5 => exact far_slice (IsS68.own_ne HI338.out HO344.out (by decide))); rintro e w37 ⟨rfl, hi, hb, hk⟩; refine ⟨_, rfl, ?_⟩; replace BK341 := aM (k0 hk BK341 NB341_338); replace HO344 := aM (rM (Kd.R_keep (IsS68.apart (show IsS68 w _ gb338 x339000_1 from iS68 HI338) (rl HO344) (by decide)) hk (fun _ h => h.2)) (fun _ h => h.1)); replace HB := aM (hb); replace HI338 := aM (hi); (try clear hb); (try clear hk); (try clear hi); obtain ⟨hcz38_0, hcz38_1, hcz38_2, hcz38_3, hcz38_4, hcz38_5, hcz38_6, hcz38_7, hcz38_8, hcz38_9, hcz38_10, hcz38_11, hfz38_0, hfz38_1, hfz38_2, hfz38_3, hfz38_4, hfz38_5, hfz38_6, hfz38_7, hfz38_8, hfz38_9, hfz38_10, hfz38_11⟩ := bc12 BK341) | ((with_reducible refine gate_callee (f := 51) rfl ?_); refine gL (some 31) Try.func51 #[.agg #[.int .i64 ((rd_T65 l0 x14_1).f0), .int .i64 ((rd_T65 l0 x14_1).f1), .int .i64 ((rd_T65 l0 x14_1).f2.f0), .int .i64 ((rd_T65 l0 x14_1).f2.f1.f0), .int .i64 ((rd_T65 l0 x14_1).f2.f1.f1), .slice A340_5 ((rd_T65 l0 x14_1).f2.f2).length c340_5, .int .i64 ((rd_T65 l0 x14_1).f3.f0), .slice A340_7 ((rd_T65 l0 x14_1).f3.f1).length c340_7, .slice A340_8 ((rd_T65 l0 x14_1).f3.f2).length c340_8, .int .i64 ((rd_T65 l0 x14_1).f4.f0), .slice A340_10 ((rd_T65 l0 x14_1).f4.f1).length c340_10, .slice A340_11 ((rd_T65 l0 x14_1).f4.f2).length c340_11]] ?_; (with_reducible refine (change_Check.calls ((rd_T65 l0 x14_1).f0) ((rd_T65 l0 x14_1).f1) ((rd_T65 l0 x14_1).f2.f0) ((rd_T65 l0 x14_1).f2.f1.f0) ((rd_T65 l0 x14_1).f2.f1.f1) _ _ ((rd_T65 l0 x14_1).f2.f2) ((rd_T65 l0 x14_1).f3.f0) _ _ ((rd_T65 l0 x14_1).f3.f1) _ _ ((rd_T65 l0 x14_1).f3.f2) ((rd_T65 l0 x14_1).f4.f0) _ _ ((rd_T65 l0 x14_1).f4.f1) _ _ ((rd_T65 l0 x14_1).f4.f2) t346 _ ?side1 ?side2 ?side3 ?side4 ?side5 ?side6 ?side7 ?side8 ?side9 ?side10 A9.out).mono ?_); (case side1 => exact cl HR340_5); (case side2 => exact HC340_5.out); (case side3 => exact cl HR340_7); (case side4 => exact HC340_7.out); (case side5 => exact cl HR340_8); (case side6 => exact HC340_8.out); (case side7 => exact cl HR340_10); (case side8 => exact HC340_10.out); (case side9 => exact cl HR340_11); (case side10 => exact HC340_11.out); rintro e w39 ⟨rfl, hb⟩; refine ⟨_, rfl, ?_⟩; replace HO344 := aM (rB (rl HO344) hb); replace HI338 := aM (IsS68.below (iS68 HI338) hb); replace BK341 := aM (kB (kl BK341) hb); replace HB := aM (bS (iB68 HB) hb); (try clear hb); obtain ⟨hcz40_0, hcz40_1, hcz40_2, hcz40_3, hcz40_4, hcz40_5, hcz40_6, hcz40_7, hcz40_8, hcz40_9, hcz40_10, hcz40_11, hfz40_0, hfz40_1, hfz40_2, hfz40_3, hfz40_4, hfz40_5, hfz40_6, hfz40_7, hfz40_8, hfz40_9, hfz40_10, hfz40_11⟩ := bc12 BK341) | ((with_reducible refine gate_callee (f := 28) rfl ?_); refine gL (some 50) Try.func28 #[.pointer (some ⟨gb338, 0, none⟩), .agg #[.int .i64 ((rd_T65 l0 x14_1).f2.f0), .int .i64 ((rd_T65 l0 x14_1).f2.f1.f0), .int .i64 ((rd_T65 l0 x14_1).f2.f1.f1), .slice A340_5 ((rd_T65 l0 x14_1).f2.f2).length c340_5]] ?_; (with_reducible refine (codec_writer_node.calls k1 gb338 t345 ((rd_T65 l0 x14_1).f2.f0) ((rd_T65 l0 x14_1).f2.f1.f0) ((rd_T65 l0 x14_1).f2.f1.f1) _ _ ((rd_T65 l0 x14_1).f2.f2) t353 w _ (iS68 HI338) (iB68 HB) ?side3 ?side4 A30.out).mono ?_); (case side3 => exact Kd.C_foot_came k130_heap HR340_5.out (iB68 HB) (IsS68.ge HI338.out)); (case side4 => exact HC340_5.out); rintro e w41 ⟨rfl, hi, hb, hk⟩; refine ⟨_, rfl, ?_⟩; replace BK341 := aM (k0 hk BK341 NB341_338); replace HO344 := aM (rM (Kd.R_keep (IsS68.apart (show IsS68 w _ gb338 t345 from iS68 HI338) (rl HO344) (by decide)) hk (fun _ h => h.2)) (fun _ h => h.1)); replace HB := aM (hb); replace HI338 := aM (hi); (try clear hb); (try clear hk); (try clear hi)))
         go_roundg k1
         case measure => have := HK1.out; omega
         case rel => exact ⟨(wrap64 (x14_1 + 1)), (t353), (by first | rfl | (simp; done) | (simp [*]; done)), H', ⟨by have := HK1.out; omega⟩, ⟨iS68 HI338⟩, ⟨iB68 HB⟩⟩
        ·rw [if_neg c29] at H
         have c29b0 : (((rd_T65 l0 x14_1).f1) == 1) = false := beq_eq_false_iff_ne.mpr c29
         have c29b1 : (((rd_T65 l0 x14_1).f1) != 1) = true := bne_iff_ne.mpr c29
         by_cases c42 : ((rd_T65 l0 x14_1).f1) = 2
         ·rw [if_pos c42] at H
          have c42b0 : (((rd_T65 l0 x14_1).f1) == 2) = true := beq_iff_eq.mpr c42
          have c42b1 : (((rd_T65 l0 x14_1).f1) != 2) = false := bne_eq_false_iff_eq.mpr c42
          clear c42
          replace H := Option.bind_eq_some_iff.mp H
          obtain ⟨t354, A430, H⟩ := H
          try dsimp only at H
          have A43 := aM A430
          clear A430
          have H' := aM H
          clear H
          have p340 : 0 ≤ (x14_1 : Int) := oT
          have q340 : x14_1 < (l0.length : Int) := oT
          obtain ⟨ad340, A340_5, c340_5, A340_7, c340_7, A340_8, c340_8, A340_10, c340_10, A340_11, c340_11, e340, hx340_0, hx340_1, hx340_2, hx340_3, hx340_4, hx340_5, hx340_6, hx340_7, hx340_8, hx340_9, hx340_10, hx340_11, hl340_5, hi340_5, hl340_7, hi340_7, hl340_8, hi340_8, hl340_10, hi340_10, hl340_11, hi340_11⟩ := at_T65 HR0.out x14_1 p340 q340
          cases e340
          replace hx340_0 := hs HB.out hx340_0
          replace hx340_1 := hs HB.out hx340_1
          replace hx340_2 := hs HB.out hx340_2
          replace hx340_3 := hs HB.out hx340_3
          replace hx340_4 := hs HB.out hx340_4
          replace hx340_5 := hs HB.out hx340_5
          replace hx340_6 := hs HB.out hx340_6
          replace hx340_7 := hs HB.out hx340_7
          replace hx340_8 := hs HB.out hx340_8
          replace hx340_9 := hs HB.out hx340_9
          replace hx340_10 := hs HB.out hx340_10
          replace hx340_11 := hs HB.out hx340_11
          have HR340_5 := aM hi340_5
          have HC340_5 := aM hl340_5
          clear hi340_5 hl340_5
          have HR340_7 := aM hi340_7
          have HC340_7 := aM hl340_7
          clear hi340_7 hl340_7
          have HR340_8 := aM hi340_8
          have HC340_8 := aM hl340_8
          clear hi340_8 hl340_8
          have HR340_10 := aM hi340_10
          have HC340_10 := aM hl340_10
          clear hi340_10 hl340_10
          have HR340_11 := aM hi340_11
          have HC340_11 := aM hl340_11
          clear hi340_11 hl340_11
          replace p340 := eq_true p340
          replace q340 := eq_true q340
          go_wp2_with (first | ((with_reducible refine gate_dst (N := 5) rfl ?_); refine bx (N := 5) (cs := #[.int .i64 0, .int .i64 0, .int .i64 0, .int .i64 0, .int .i64 0, .slice none 0 0, .int .i64 0, .slice none 0 0, .slice none 0 0, .int .i64 0, .slice none 0 0, .slice none 0 0]) (t := 65) ?_; intro gb341 hg w44 hbox hb; have n0_ := aM (IsS68.below (iS68 HI338) hb); have n1_ := aM (bS (iB68 HB) hb); have n2_ := aM (hbox); have n4_ := aM ((by rw [hg]; exact (below_size (iB68 HB)) : w.heap.size ≤ gb341)); have n5_ := aM (ni68 HI338 hg); have n6_ := aM (ni68 HI338 hg).symm; (try clear HI338); (try clear HB); have HI338 := n0_; have HB := n1_; have BK341 := n2_; have GE341 := n4_; have NB338_341 := n5_; have NB341_338 := n6_; clear n0_ n1_ n2_ n4_ n5_ n6_ hb hbox hg; obtain ⟨hnb45, hnc45⟩ := nn NB341_338; obtain ⟨hcz46_0, hcz46_1, hcz46_2, hcz46_3, hcz46_4, hcz46_5, hcz46_6, hcz46_7, hcz46_8, hcz46_9, hcz46_10, hcz46_11, hfz46_0, hfz46_1, hfz46_2, hfz46_3, hfz46_4, hfz46_5, hfz46_6, hfz46_7, hfz46_8, hfz46_9, hfz46_10, hfz46_11⟩ := bc12 BK341) | ((with_reducible refine gate_dst (N := 23) rfl ?_); refine Kd.R_lit (Kd.int .i64) _ 3 ?hg (N := 23) ?hd (xs := ([(rd_T65 l0 x14_1).f0, (rd_T65 l0 x14_1).f1] : List Int)) (inner := [.int .i64 ((rd_T65 l0 x14_1).f0), .int .i64 ((rd_T65 l0 x14_1).f1)]) (ok := fun _ => True) (okp := fun _ => True) ?hr ?hp (fun _ hk => hk) trivial (Below.refl _ _) (Nat.le_refl _) (by simp) ?_; (case hd => rfl); (case hg => rfl); (case hr => first | (go_simp; done) | (go_simp; rfl)); (case hp => exact (Reps.one (show Kd.M (Kd.int .i64) _ _ _ ((rd_T65 l0 x14_1).f0) [.int .i64 ((rd_T65 l0 x14_1).f0)] from rfl) (Reps.one (show Kd.M (Kd.int .i64) _ _ _ ((rd_T65 l0 x14_1).f1) [.int .i64 ((rd_T65 l0 x14_1).f1)] from rfl) (Reps.none _ _)))); intro v343 w47 ho48 hb hg_ hnew_; clear hg_ hnew_; (first | rw [← Ny342.out] at ho48 | (simp only [Int.reduceToNat] at ho48; rw [← Ny342.out] at ho48)); have HO344 := aM (Kd.R_lower ho48 (below_size (iB68 HB))); replace HI338 := aM (IsS68.below (show IsS68 w ((((((((((((w44.setCell ⟨gb341, 0, none⟩ (.int .i64 ((rd_T65 l0 x14_1).f0))).setCell ⟨gb341, 1, none⟩ (.int .i64 ((rd_T65 l0 x14_1).f1))).setCell ⟨gb341, 2, none⟩ (.int .i64 ((rd_T65 l0 x14_1).f2.f0))).setCell ⟨gb341, 3, none⟩ (.int .i64 ((rd_T65 l0 x14_1).f2.f1.f0))).setCell ⟨gb341, 4, none⟩ (.int .i64 ((rd_T65 l0 x14_1).f2.f1.f1))).setCell ⟨gb341, 5, none⟩ (.slice A340_5 ((rd_T65 l0 x14_1).f2.f2).length c340_5)).setCell ⟨gb341, 6, none⟩ (.int .i64 ((rd_T65 l0 x14_1).f3.f0))).setCell ⟨gb341, 7, none⟩ (.slice A340_7 ((rd_T65 l0 x14_1).f3.f1).length c340_7)).setCell ⟨gb341, 8, none⟩ (.slice A340_8 ((rd_T65 l0 x14_1).f3.f2).length c340_8)).setCell ⟨gb341, 9, none⟩ (.int .i64 ((rd_T65 l0 x14_1).f4.f0))).setCell ⟨gb341, 10, none⟩ (.slice A340_10 ((rd_T65 l0 x14_1).f4.f1).length c340_10)).setCell ⟨gb341, 11, none⟩ (.slice A340_11 ((rd_T65 l0 x14_1).f4.f2).length c340_11)) gb338 x339000_1 from iS68 HI338) hb); replace BK341 := aM (kB (g := gb341) (o := .cells #[.int .i64 ((rd_T65 l0 x14_1).f0), .int .i64 ((rd_T65 l0 x14_1).f1), .int .i64 ((rd_T65 l0 x14_1).f2.f0), .int .i64 ((rd_T65 l0 x14_1).f2.f1.f0), .int .i64 ((rd_T65 l0 x14_1).f2.f1.f1), .slice A340_5 ((rd_T65 l0 x14_1).f2.f2).length c340_5, .int .i64 ((rd_T65 l0 x14_1).f3.f0), .slice A340_7 ((rd_T65 l0 x14_1).f3.f1).length c340_7, .slice A340_8 ((rd_T65 l0 x14_1).f3.f2).length c340_8, .int .i64 ((rd_T65 l0 x14_1).f4.f0), .slice A340_10 ((rd_T65 l0 x14_1).f4.f1).length c340_10, .slice A340_11 ((rd_T65 l0 x14_1).f4.f2).length c340_11] 65 (0, 0)) (bk BK341) hb); replace HB := aM (bS (iB68 HB) hb); clear hb ho48; obtain ⟨Ao49, co49, eo49⟩ := Kd.R_slice HO344.out; subst eo49) | ((with_reducible refine gate_callee (f := 50) rfl ?_); refine gL (some 24) Try.func50 #[.pointer (some ⟨gb338, 0, none⟩), .slice Ao49 y342.length co49] ?_; (with_reducible refine (codec_writer_ints.calls k1 gb338 x339000_1 _ _ y342 t345 w _ (iS68 HI338) (iB68 HB) ?side3 ?side4 ?side5 A8.out).mono ?_); (case side3 => repeat (first | exact (rR HO344.out).2.2 | (with_reducible refine cA ?_ _) | (with_reducible refine cN ?_ _) | (with_reducible refine cD ?_))); (case side4 => exact (rR HO344.out).2.1); (case side5 => exact far_slice (IsS68.own_ne HI338.out HO344.out (by decide))); rintro e w50 ⟨rfl, hi, hb, hk⟩; refine ⟨_, rfl, ?_⟩; replace BK341 := aM (k0 hk BK341 NB341_338); replace HO344 := aM (rM (Kd.R_keep (IsS68.apart (show IsS68 w _ gb338 x339000_1 from iS68 HI338) (rl HO344) (by decide)) hk (fun _ h => h.2)) (fun _ h => h.1)); replace HB := aM (hb); replace HI338 := aM (hi); (try clear hb); (try clear hk); (try clear hi); obtain ⟨hcz51_0, hcz51_1, hcz51_2, hcz51_3, hcz51_4, hcz51_5, hcz51_6, hcz51_7, hcz51_8, hcz51_9, hcz51_10, hcz51_11, hfz51_0, hfz51_1, hfz51_2, hfz51_3, hfz51_4, hfz51_5, hfz51_6, hfz51_7, hfz51_8, hfz51_9, hfz51_10, hfz51_11⟩ := bc12 BK341) | ((with_reducible refine gate_callee (f := 51) rfl ?_); refine gL (some 31) Try.func51 #[.agg #[.int .i64 ((rd_T65 l0 x14_1).f0), .int .i64 ((rd_T65 l0 x14_1).f1), .int .i64 ((rd_T65 l0 x14_1).f2.f0), .int .i64 ((rd_T65 l0 x14_1).f2.f1.f0), .int .i64 ((rd_T65 l0 x14_1).f2.f1.f1), .slice A340_5 ((rd_T65 l0 x14_1).f2.f2).length c340_5, .int .i64 ((rd_T65 l0 x14_1).f3.f0), .slice A340_7 ((rd_T65 l0 x14_1).f3.f1).length c340_7, .slice A340_8 ((rd_T65 l0 x14_1).f3.f2).length c340_8, .int .i64 ((rd_T65 l0 x14_1).f4.f0), .slice A340_10 ((rd_T65 l0 x14_1).f4.f1).length c340_10, .slice A340_11 ((rd_T65 l0 x14_1).f4.f2).length c340_11]] ?_; (with_reducible refine (change_Check.calls ((rd_T65 l0 x14_1).f0) ((rd_T65 l0 x14_1).f1) ((rd_T65 l0 x14_1).f2.f0) ((rd_T65 l0 x14_1).f2.f1.f0) ((rd_T65 l0 x14_1).f2.f1.f1) _ _ ((rd_T65 l0 x14_1).f2.f2) ((rd_T65 l0 x14_1).f3.f0) _ _ ((rd_T65 l0 x14_1).f3.f1) _ _ ((rd_T65 l0 x14_1).f3.f2) ((rd_T65 l0 x14_1).f4.f0) _ _ ((rd_T65 l0 x14_1).f4.f1) _ _ ((rd_T65 l0 x14_1).f4.f2) t346 _ ?side1 ?side2 ?side3 ?side4 ?side5 ?side6 ?side7 ?side8 ?side9 ?side10 A9.out).mono ?_); (case side1 => exact cl HR340_5); (case side2 => exact HC340_5.out); (case side3 => exact cl HR340_7); (case side4 => exact HC340_7.out); (case side5 => exact cl HR340_8); (case side6 => exact HC340_8.out); (case side7 => exact cl HR340_10); (case side8 => exact HC340_10.out); (case side9 => exact cl HR340_11); (case side10 => exact HC340_11.out); rintro e w52 ⟨rfl, hb⟩; refine ⟨_, rfl, ?_⟩; replace HO344 := aM (rB (rl HO344) hb); replace HI338 := aM (IsS68.below (iS68 HI338) hb); replace BK341 := aM (kB (kl BK341) hb); replace HB := aM (bS (iB68 HB) hb); (try clear hb); obtain ⟨hcz53_0, hcz53_1, hcz53_2, hcz53_3, hcz53_4, hcz53_5, hcz53_6, hcz53_7, hcz53_8, hcz53_9, hcz53_10, hcz53_11, hfz53_0, hfz53_1, hfz53_2, hfz53_3, hfz53_4, hfz53_5, hfz53_6, hfz53_7, hfz53_8, hfz53_9, hfz53_10, hfz53_11⟩ := bc12 BK341) | ((with_reducible refine gate_callee (f := 29) rfl ?_); refine gL (some 58) Try.func29 #[.pointer (some ⟨gb338, 0, none⟩), .agg #[.int .i64 ((rd_T65 l0 x14_1).f3.f0), .slice A340_7 ((rd_T65 l0 x14_1).f3.f1).length c340_7, .slice A340_8 ((rd_T65 l0 x14_1).f3.f2).length c340_8]] ?_; (with_reducible refine (codec_writer_way.calls k1 gb338 t345 ((rd_T65 l0 x14_1).f3.f0) _ _ ((rd_T65 l0 x14_1).f3.f1) _ _ ((rd_T65 l0 x14_1).f3.f2) t354 w _ (iS68 HI338) (iB68 HB) ?side3 ?side4 ?side5 ?side6 ?side7 A43.out).mono ?_); (case side3 => exact cl HR340_7); (case side4 => exact HC340_7.out); (case side5 => exact Kd.far_C 0 HR340_7.out (IsS68.ge HI338.out)); (case side6 => exact Kd.C_foot_came k130_heap HR340_8.out (iB68 HB) (IsS68.ge HI338.out)); (case side7 => exact HC340_8.out); rintro e w54 ⟨rfl, hi, hb, hk⟩; refine ⟨_, rfl, ?_⟩; replace BK341 := aM (k0 hk BK341 NB341_338); replace HO344 := aM (rM (Kd.R_keep (IsS68.apart (show IsS68 w _ gb338 t345 from iS68 HI338) (rl HO344) (by decide)) hk (fun _ h => h.2)) (fun _ h => h.1)); replace HB := aM (hb); replace HI338 := aM (hi); (try clear hb); (try clear hk); (try clear hi)))
          go_roundg k1
          case measure => have := HK1.out; omega
          case rel => exact ⟨(wrap64 (x14_1 + 1)), (t354), (by first | rfl | (simp; done) | (simp [*]; done)), H', ⟨by have := HK1.out; omega⟩, ⟨iS68 HI338⟩, ⟨iB68 HB⟩⟩
         ·rw [if_neg c42] at H
          have c42b0 : (((rd_T65 l0 x14_1).f1) == 2) = false := beq_eq_false_iff_ne.mpr c42
          have c42b1 : (((rd_T65 l0 x14_1).f1) != 2) = true := bne_iff_ne.mpr c42
          replace H := Option.bind_eq_some_iff.mp H
          obtain ⟨t355, A550, H⟩ := H
          try dsimp only at H
          have A55 := aM A550
          clear A550
          have H' := aM H
          clear H
          have p340 : 0 ≤ (x14_1 : Int) := oT
          have q340 : x14_1 < (l0.length : Int) := oT
          obtain ⟨ad340, A340_5, c340_5, A340_7, c340_7, A340_8, c340_8, A340_10, c340_10, A340_11, c340_11, e340, hx340_0, hx340_1, hx340_2, hx340_3, hx340_4, hx340_5, hx340_6, hx340_7, hx340_8, hx340_9, hx340_10, hx340_11, hl340_5, hi340_5, hl340_7, hi340_7, hl340_8, hi340_8, hl340_10, hi340_10, hl340_11, hi340_11⟩ := at_T65 HR0.out x14_1 p340 q340
          cases e340
          replace hx340_0 := hs HB.out hx340_0
          replace hx340_1 := hs HB.out hx340_1
          replace hx340_2 := hs HB.out hx340_2
          replace hx340_3 := hs HB.out hx340_3
          replace hx340_4 := hs HB.out hx340_4
          replace hx340_5 := hs HB.out hx340_5
          replace hx340_6 := hs HB.out hx340_6
          replace hx340_7 := hs HB.out hx340_7
          replace hx340_8 := hs HB.out hx340_8
          replace hx340_9 := hs HB.out hx340_9
          replace hx340_10 := hs HB.out hx340_10
          replace hx340_11 := hs HB.out hx340_11
          have HR340_5 := aM hi340_5
          have HC340_5 := aM hl340_5
          clear hi340_5 hl340_5
          have HR340_7 := aM hi340_7
          have HC340_7 := aM hl340_7
          clear hi340_7 hl340_7
          have HR340_8 := aM hi340_8
          have HC340_8 := aM hl340_8
          clear hi340_8 hl340_8
          have HR340_10 := aM hi340_10
          have HC340_10 := aM hl340_10
          clear hi340_10 hl340_10
          have HR340_11 := aM hi340_11
          have HC340_11 := aM hl340_11
          clear hi340_11 hl340_11
          replace p340 := eq_true p340
          replace q340 := eq_true q340
          go_wp2_with (first | ((with_reducible refine gate_dst (N := 5) rfl ?_); refine bx (N := 5) (cs := #[.int .i64 0, .int .i64 0, .int .i64 0, .int .i64 0, .int .i64 0, .slice none 0 0, .int .i64 0, .slice none 0 0, .slice none 0 0, .int .i64 0, .slice none 0 0, .slice none 0 0]) (t := 65) ?_; intro gb341 hg w56 hbox hb; have n0_ := aM (IsS68.below (iS68 HI338) hb); have n1_ := aM (bS (iB68 HB) hb); have n2_ := aM (hbox); have n4_ := aM ((by rw [hg]; exact (below_size (iB68 HB)) : w.heap.size ≤ gb341)); have n5_ := aM (ni68 HI338 hg); have n6_ := aM (ni68 HI338 hg).symm; (try clear HI338); (try clear HB); have HI338 := n0_; have HB := n1_; have BK341 := n2_; have GE341 := n4_; have NB338_341 := n5_; have NB341_338 := n6_; clear n0_ n1_ n2_ n4_ n5_ n6_ hb hbox hg; obtain ⟨hnb57, hnc57⟩ := nn NB341_338; obtain ⟨hcz58_0, hcz58_1, hcz58_2, hcz58_3, hcz58_4, hcz58_5, hcz58_6, hcz58_7, hcz58_8, hcz58_9, hcz58_10, hcz58_11, hfz58_0, hfz58_1, hfz58_2, hfz58_3, hfz58_4, hfz58_5, hfz58_6, hfz58_7, hfz58_8, hfz58_9, hfz58_10, hfz58_11⟩ := bc12 BK341) | ((with_reducible refine gate_dst (N := 23) rfl ?_); refine Kd.R_lit (Kd.int .i64) _ 3 ?hg (N := 23) ?hd (xs := ([(rd_T65 l0 x14_1).f0, (rd_T65 l0 x14_1).f1] : List Int)) (inner := [.int .i64 ((rd_T65 l0 x14_1).f0), .int .i64 ((rd_T65 l0 x14_1).f1)]) (ok := fun _ => True) (okp := fun _ => True) ?hr ?hp (fun _ hk => hk) trivial (Below.refl _ _) (Nat.le_refl _) (by simp) ?_; (case hd => rfl); (case hg => rfl); (case hr => first | (go_simp; done) | (go_simp; rfl)); (case hp => exact (Reps.one (show Kd.M (Kd.int .i64) _ _ _ ((rd_T65 l0 x14_1).f0) [.int .i64 ((rd_T65 l0 x14_1).f0)] from rfl) (Reps.one (show Kd.M (Kd.int .i64) _ _ _ ((rd_T65 l0 x14_1).f1) [.int .i64 ((rd_T65 l0 x14_1).f1)] from rfl) (Reps.none _ _)))); intro v343 w59 ho60 hb hg_ hnew_; clear hg_ hnew_; (first | rw [← Ny342.out] at ho60 | (simp only [Int.reduceToNat] at ho60; rw [← Ny342.out] at ho60)); have HO344 := aM (Kd.R_lower ho60 (below_size (iB68 HB))); replace HI338 := aM (IsS68.below (show IsS68 w ((((((((((((w56.setCell ⟨gb341, 0, none⟩ (.int .i64 ((rd_T65 l0 x14_1).f0))).setCell ⟨gb341, 1, none⟩ (.int .i64 ((rd_T65 l0 x14_1).f1))).setCell ⟨gb341, 2, none⟩ (.int .i64 ((rd_T65 l0 x14_1).f2.f0))).setCell ⟨gb341, 3, none⟩ (.int .i64 ((rd_T65 l0 x14_1).f2.f1.f0))).setCell ⟨gb341, 4, none⟩ (.int .i64 ((rd_T65 l0 x14_1).f2.f1.f1))).setCell ⟨gb341, 5, none⟩ (.slice A340_5 ((rd_T65 l0 x14_1).f2.f2).length c340_5)).setCell ⟨gb341, 6, none⟩ (.int .i64 ((rd_T65 l0 x14_1).f3.f0))).setCell ⟨gb341, 7, none⟩ (.slice A340_7 ((rd_T65 l0 x14_1).f3.f1).length c340_7)).setCell ⟨gb341, 8, none⟩ (.slice A340_8 ((rd_T65 l0 x14_1).f3.f2).length c340_8)).setCell ⟨gb341, 9, none⟩ (.int .i64 ((rd_T65 l0 x14_1).f4.f0))).setCell ⟨gb341, 10, none⟩ (.slice A340_10 ((rd_T65 l0 x14_1).f4.f1).length c340_10)).setCell ⟨gb341, 11, none⟩ (.slice A340_11 ((rd_T65 l0 x14_1).f4.f2).length c340_11)) gb338 x339000_1 from iS68 HI338) hb); replace BK341 := aM (kB (g := gb341) (o := .cells #[.int .i64 ((rd_T65 l0 x14_1).f0), .int .i64 ((rd_T65 l0 x14_1).f1), .int .i64 ((rd_T65 l0 x14_1).f2.f0), .int .i64 ((rd_T65 l0 x14_1).f2.f1.f0), .int .i64 ((rd_T65 l0 x14_1).f2.f1.f1), .slice A340_5 ((rd_T65 l0 x14_1).f2.f2).length c340_5, .int .i64 ((rd_T65 l0 x14_1).f3.f0), .slice A340_7 ((rd_T65 l0 x14_1).f3.f1).length c340_7, .slice A340_8 ((rd_T65 l0 x14_1).f3.f2).length c340_8, .int .i64 ((rd_T65 l0 x14_1).f4.f0), .slice A340_10 ((rd_T65 l0 x14_1).f4.f1).length c340_10, .slice A340_11 ((rd_T65 l0 x14_1).f4.f2).length c340_11] 65 (0, 0)) (bk BK341) hb); replace HB := aM (bS (iB68 HB) hb); clear hb ho60; obtain ⟨Ao61, co61, eo61⟩ := Kd.R_slice HO344.out; subst eo61) | ((with_reducible refine gate_callee (f := 50) rfl ?_); refine gL (some 24) Try.func50 #[.pointer (some ⟨gb338, 0, none⟩), .slice Ao61 y342.length co61] ?_; (with_reducible refine (codec_writer_ints.calls k1 gb338 x339000_1 _ _ y342 t345 w _ (iS68 HI338) (iB68 HB) ?side3 ?side4 ?side5 A8.out).mono ?_); (case side3 => repeat (first | exact (rR HO344.out).2.2 | (with_reducible refine cA ?_ _) | (with_reducible refine cN ?_ _) | (with_reducible refine cD ?_))); (case side4 => exact (rR HO344.out).2.1); (case side5 => exact far_slice (IsS68.own_ne HI338.out HO344.out (by decide))); rintro e w62 ⟨rfl, hi, hb, hk⟩; refine ⟨_, rfl, ?_⟩; replace BK341 := aM (k0 hk BK341 NB341_338); replace HO344 := aM (rM (Kd.R_keep (IsS68.apart (show IsS68 w _ gb338 x339000_1 from iS68 HI338) (rl HO344) (by decide)) hk (fun _ h => h.2)) (fun _ h => h.1)); replace HB := aM (hb); replace HI338 := aM (hi); (try clear hb); (try clear hk); (try clear hi); obtain ⟨hcz63_0, hcz63_1, hcz63_2, hcz63_3, hcz63_4, hcz63_5, hcz63_6, hcz63_7, hcz63_8, hcz63_9, hcz63_10, hcz63_11, hfz63_0, hfz63_1, hfz63_2, hfz63_3, hfz63_4, hfz63_5, hfz63_6, hfz63_7, hfz63_8, hfz63_9, hfz63_10, hfz63_11⟩ := bc12 BK341) | ((with_reducible refine gate_callee (f := 51) rfl ?_); refine gL (some 31) Try.func51 #[.agg #[.int .i64 ((rd_T65 l0 x14_1).f0), .int .i64 ((rd_T65 l0 x14_1).f1), .int .i64 ((rd_T65 l0 x14_1).f2.f0), .int .i64 ((rd_T65 l0 x14_1).f2.f1.f0), .int .i64 ((rd_T65 l0 x14_1).f2.f1.f1), .slice A340_5 ((rd_T65 l0 x14_1).f2.f2).length c340_5, .int .i64 ((rd_T65 l0 x14_1).f3.f0), .slice A340_7 ((rd_T65 l0 x14_1).f3.f1).length c340_7, .slice A340_8 ((rd_T65 l0 x14_1).f3.f2).length c340_8, .int .i64 ((rd_T65 l0 x14_1).f4.f0), .slice A340_10 ((rd_T65 l0 x14_1).f4.f1).length c340_10, .slice A340_11 ((rd_T65 l0 x14_1).f4.f2).length c340_11]] ?_; (with_reducible refine (change_Check.calls ((rd_T65 l0 x14_1).f0) ((rd_T65 l0 x14_1).f1) ((rd_T65 l0 x14_1).f2.f0) ((rd_T65 l0 x14_1).f2.f1.f0) ((rd_T65 l0 x14_1).f2.f1.f1) _ _ ((rd_T65 l0 x14_1).f2.f2) ((rd_T65 l0 x14_1).f3.f0) _ _ ((rd_T65 l0 x14_1).f3.f1) _ _ ((rd_T65 l0 x14_1).f3.f2) ((rd_T65 l0 x14_1).f4.f0) _ _ ((rd_T65 l0 x14_1).f4.f1) _ _ ((rd_T65 l0 x14_1).f4.f2) t346 _ ?side1 ?side2 ?side3 ?side4 ?side5 ?side6 ?side7 ?side8 ?side9 ?side10 A9.out).mono ?_); (case side1 => exact cl HR340_5); (case side2 => exact HC340_5.out); (case side3 => exact cl HR340_7); (case side4 => exact HC340_7.out); (case side5 => exact cl HR340_8); (case side6 => exact HC340_8.out); (case side7 => exact cl HR340_10); (case side8 => exact HC340_10.out); (case side9 => exact cl HR340_11); (case side10 => exact HC340_11.out); rintro e w64 ⟨rfl, hb⟩; refine ⟨_, rfl, ?_⟩; replace HO344 := aM (rB (rl HO344) hb); replace HI338 := aM (IsS68.below (iS68 HI338) hb); replace BK341 := aM (kB (kl BK341) hb); replace HB := aM (bS (iB68 HB) hb); (try clear hb); obtain ⟨hcz65_0, hcz65_1, hcz65_2, hcz65_3, hcz65_4, hcz65_5, hcz65_6, hcz65_7, hcz65_8, hcz65_9, hcz65_10, hcz65_11, hfz65_0, hfz65_1, hfz65_2, hfz65_3, hfz65_4, hfz65_5, hfz65_6, hfz65_7, hfz65_8, hfz65_9, hfz65_10, hfz65_11⟩ := bc12 BK341) | ((with_reducible refine gate_callee (f := 30) rfl ?_); refine gL (some 28) Try.func30 #[.pointer (some ⟨gb338, 0, none⟩), .agg #[.int .i64 ((rd_T65 l0 x14_1).f4.f0), .slice A340_10 ((rd_T65 l0 x14_1).f4.f1).length c340_10, .slice A340_11 ((rd_T65 l0 x14_1).f4.f2).length c340_11]] ?_; (with_reducible refine (codec_writer_rel.calls k1 gb338 t345 ((rd_T65 l0 x14_1).f4.f0) _ _ ((rd_T65 l0 x14_1).f4.f1) _ _ ((rd_T65 l0 x14_1).f4.f2) t355 w _ (iS68 HI338) (iB68 HB) ?side3 ?side4 ?side5 ?side6 A55.out).mono ?_); (case side3 => exact Kd.C_foot_came k63_heap HR340_10.out (iB68 HB) (IsS68.ge HI338.out)); (case side4 => exact HC340_10.out); (case side5 => exact Kd.C_foot_came k130_heap HR340_11.out (iB68 HB) (IsS68.ge HI338.out)); (case side6 => exact HC340_11.out); rintro e w66 ⟨rfl, hi, hb, hk⟩; refine ⟨_, rfl, ?_⟩; replace BK341 := aM (k0 hk BK341 NB341_338); replace HO344 := aM (rM (Kd.R_keep (IsS68.apart (show IsS68 w _ gb338 t345 from iS68 HI338) (rl HO344) (by decide)) hk (fun _ h => h.2)) (fun _ h => h.1)); replace HB := aM (hb); replace HI338 := aM (hi); (try clear hb); (try clear hk); (try clear hi)))
          go_roundg k1
          case measure => have := HK1.out; omega
          case rel => exact ⟨(wrap64 (x14_1 + 1)), (t355), (by first | rfl | (simp; done) | (simp [*]; done)), H', ⟨by have := HK1.out; omega⟩, ⟨iS68 HI338⟩, ⟨iB68 HB⟩⟩
      ·rw [if_neg c10] at H
       have c10b0 : (t346 == 0) = false := beq_eq_false_iff_ne.mpr c10
       have c10b1 : (t346 != 0) = true := bne_iff_ne.mpr c10
       have H' := aM H
       clear H
       have p340 : 0 ≤ (x14_1 : Int) := oT
       have q340 : x14_1 < (l0.length : Int) := oT
       obtain ⟨ad340, A340_5, c340_5, A340_7, c340_7, A340_8, c340_8, A340_10, c340_10, A340_11, c340_11, e340, hx340_0, hx340_1, hx340_2, hx340_3, hx340_4, hx340_5, hx340_6, hx340_7, hx340_8, hx340_9, hx340_10, hx340_11, hl340_5, hi340_5, hl340_7, hi340_7, hl340_8, hi340_8, hl340_10, hi340_10, hl340_11, hi340_11⟩ := at_T65 HR0.out x14_1 p340 q340
       cases e340
       replace hx340_0 := hs HB.out hx340_0
       replace hx340_1 := hs HB.out hx340_1
       replace hx340_2 := hs HB.out hx340_2
       replace hx340_3 := hs HB.out hx340_3
       replace hx340_4 := hs HB.out hx340_4
       replace hx340_5 := hs HB.out hx340_5
       replace hx340_6 := hs HB.out hx340_6
       replace hx340_7 := hs HB.out hx340_7
       replace hx340_8 := hs HB.out hx340_8
       replace hx340_9 := hs HB.out hx340_9
       replace hx340_10 := hs HB.out hx340_10
       replace hx340_11 := hs HB.out hx340_11
       have HR340_5 := aM hi340_5
       have HC340_5 := aM hl340_5
       clear hi340_5 hl340_5
       have HR340_7 := aM hi340_7
       have HC340_7 := aM hl340_7
       clear hi340_7 hl340_7
       have HR340_8 := aM hi340_8
       have HC340_8 := aM hl340_8
       clear hi340_8 hl340_8
       have HR340_10 := aM hi340_10
       have HC340_10 := aM hl340_10
       clear hi340_10 hl340_10
       have HR340_11 := aM hi340_11
       have HC340_11 := aM hl340_11
       clear hi340_11 hl340_11
       replace p340 := eq_true p340
       replace q340 := eq_true q340
       go_wp2_with (first | ((with_reducible refine gate_dst (N := 5) rfl ?_); refine bx (N := 5) (cs := #[.int .i64 0, .int .i64 0, .int .i64 0, .int .i64 0, .int .i64 0, .slice none 0 0, .int .i64 0, .slice none 0 0, .slice none 0 0, .int .i64 0, .slice none 0 0, .slice none 0 0]) (t := 65) ?_; intro gb341 hg w67 hbox hb; have n0_ := aM (IsS68.below (iS68 HI338) hb); have n1_ := aM (bS (iB68 HB) hb); have n2_ := aM (hbox); have n4_ := aM ((by rw [hg]; exact (below_size (iB68 HB)) : w.heap.size ≤ gb341)); have n5_ := aM (ni68 HI338 hg); have n6_ := aM (ni68 HI338 hg).symm; (try clear HI338); (try clear HB); have HI338 := n0_; have HB := n1_; have BK341 := n2_; have GE341 := n4_; have NB338_341 := n5_; have NB341_338 := n6_; clear n0_ n1_ n2_ n4_ n5_ n6_ hb hbox hg; obtain ⟨hnb68, hnc68⟩ := nn NB341_338; obtain ⟨hcz69_0, hcz69_1, hcz69_2, hcz69_3, hcz69_4, hcz69_5, hcz69_6, hcz69_7, hcz69_8, hcz69_9, hcz69_10, hcz69_11, hfz69_0, hfz69_1, hfz69_2, hfz69_3, hfz69_4, hfz69_5, hfz69_6, hfz69_7, hfz69_8, hfz69_9, hfz69_10, hfz69_11⟩ := bc12 BK341) | ((with_reducible refine gate_dst (N := 23) rfl ?_); refine Kd.R_lit (Kd.int .i64) _ 3 ?hg (N := 23) ?hd (xs := ([(rd_T65 l0 x14_1).f0, (rd_T65 l0 x14_1).f1] : List Int)) (inner := [.int .i64 ((rd_T65 l0 x14_1).f0), .int .i64 ((rd_T65 l0 x14_1).f1)]) (ok := fun _ => True) (okp := fun _ => True) ?hr ?hp (fun _ hk => hk) trivial (Below.refl _ _) (Nat.le_refl _) (by simp) ?_; (case hd => rfl); (case hg => rfl); (case hr => first | (go_simp; done) | (go_simp; rfl)); (case hp => exact (Reps.one (show Kd.M (Kd.int .i64) _ _ _ ((rd_T65 l0 x14_1).f0) [.int .i64 ((rd_T65 l0 x14_1).f0)] from rfl) (Reps.one (show Kd.M (Kd.int .i64) _ _ _ ((rd_T65 l0 x14_1).f1) [.int .i64 ((rd_T65 l0 x14_1).f1)] from rfl) (Reps.none _ _)))); intro v343 w70 ho71 hb hg_ hnew_; clear hg_ hnew_; (first | rw [← Ny342.out] at ho71 | (simp only [Int.reduceToNat] at ho71; rw [← Ny342.out] at ho71)); have HO344 := aM (Kd.R_lower ho71 (below_size (iB68 HB))); replace HI338 := aM (IsS68.below (show IsS68 w ((((((((((((w67.setCell ⟨gb341, 0, none⟩ (.int .i64 ((rd_T65 l0 x14_1).f0))).setCell ⟨gb341, 1, none⟩ (.int .i64 ((rd_T65 l0 x14_1).f1))).setCell ⟨gb341, 2, none⟩ (.int .i64 ((rd_T65 l0 x14_1).f2.f0))).setCell ⟨gb341, 3, none⟩ (.int .i64 ((rd_T65 l0 x14_1).f2.f1.f0))).setCell ⟨gb341, 4, none⟩ (.int .i64 ((rd_T65 l0 x14_1).f2.f1.f1))).setCell ⟨gb341, 5, none⟩ (.slice A340_5 ((rd_T65 l0 x14_1).f2.f2).length c340_5)).setCell ⟨gb341, 6, none⟩ (.int .i64 ((rd_T65 l0 x14_1).f3.f0))).setCell ⟨gb341, 7, none⟩ (.slice A340_7 ((rd_T65 l0 x14_1).f3.f1).length c340_7)).setCell ⟨gb341, 8, none⟩ (.slice A340_8 ((rd_T65 l0 x14_1).f3.f2).length c340_8)).setCell ⟨gb341, 9, none⟩ (.int .i64 ((rd_T65 l0 x14_1).f4.f0))).setCell ⟨gb341, 10, none⟩ (.slice A340_10 ((rd_T65 l0 x14_1).f4.f1).length c340_10)).setCell ⟨gb341, 11, none⟩ (.slice A340_11 ((rd_T65 l0 x14_1).f4.f2).length c340_11)) gb338 x339000_1 from iS68 HI338) hb); replace BK341 := aM (kB (g := gb341) (o := .cells #[.int .i64 ((rd_T65 l0 x14_1).f0), .int .i64 ((rd_T65 l0 x14_1).f1), .int .i64 ((rd_T65 l0 x14_1).f2.f0), .int .i64 ((rd_T65 l0 x14_1).f2.f1.f0), .int .i64 ((rd_T65 l0 x14_1).f2.f1.f1), .slice A340_5 ((rd_T65 l0 x14_1).f2.f2).length c340_5, .int .i64 ((rd_T65 l0 x14_1).f3.f0), .slice A340_7 ((rd_T65 l0 x14_1).f3.f1).length c340_7, .slice A340_8 ((rd_T65 l0 x14_1).f3.f2).length c340_8, .int .i64 ((rd_T65 l0 x14_1).f4.f0), .slice A340_10 ((rd_T65 l0 x14_1).f4.f1).length c340_10, .slice A340_11 ((rd_T65 l0 x14_1).f4.f2).length c340_11] 65 (0, 0)) (bk BK341) hb); replace HB := aM (bS (iB68 HB) hb); clear hb ho71; obtain ⟨Ao72, co72, eo72⟩ := Kd.R_slice HO344.out; subst eo72) | ((with_reducible refine gate_callee (f := 50) rfl ?_); refine gL (some 24) Try.func50 #[.pointer (some ⟨gb338, 0, none⟩), .slice Ao72 y342.length co72] ?_; (with_reducible refine (codec_writer_ints.calls k1 gb338 x339000_1 _ _ y342 t345 w _ (iS68 HI338) (iB68 HB) ?side3 ?side4 ?side5 A8.out).mono ?_); (case side3 => repeat (first | exact (rR HO344.out).2.2 | (with_reducible refine cA ?_ _) | (with_reducible refine cN ?_ _) | (with_reducible refine cD ?_))); (case side4 => exact (rR HO344.out).2.1); (case side5 => exact far_slice (IsS68.own_ne HI338.out HO344.out (by decide))); rintro e w73 ⟨rfl, hi, hb, hk⟩; refine ⟨_, rfl, ?_⟩; replace BK341 := aM (k0 hk BK341 NB341_338); replace HO344 := aM (rM (Kd.R_keep (IsS68.apart (show IsS68 w _ gb338 x339000_1 from iS68 HI338) (rl HO344) (by decide)) hk (fun _ h => h.2)) (fun _ h => h.1)); replace HB := aM (hb); replace HI338 := aM (hi); (try clear hb); (try clear hk); (try clear hi); obtain ⟨hcz74_0, hcz74_1, hcz74_2, hcz74_3, hcz74_4, hcz74_5, hcz74_6, hcz74_7, hcz74_8, hcz74_9, hcz74_10, hcz74_11, hfz74_0, hfz74_1, hfz74_2, hfz74_3, hfz74_4, hfz74_5, hfz74_6, hfz74_7, hfz74_8, hfz74_9, hfz74_10, hfz74_11⟩ := bc12 BK341) | ((with_reducible refine gate_callee (f := 51) rfl ?_); refine gL (some 31) Try.func51 #[.agg #[.int .i64 ((rd_T65 l0 x14_1).f0), .int .i64 ((rd_T65 l0 x14_1).f1), .int .i64 ((rd_T65 l0 x14_1).f2.f0), .int .i64 ((rd_T65 l0 x14_1).f2.f1.f0), .int .i64 ((rd_T65 l0 x14_1).f2.f1.f1), .slice A340_5 ((rd_T65 l0 x14_1).f2.f2).length c340_5, .int .i64 ((rd_T65 l0 x14_1).f3.f0), .slice A340_7 ((rd_T65 l0 x14_1).f3.f1).length c340_7, .slice A340_8 ((rd_T65 l0 x14_1).f3.f2).length c340_8, .int .i64 ((rd_T65 l0 x14_1).f4.f0), .slice A340_10 ((rd_T65 l0 x14_1).f4.f1).length c340_10, .slice A340_11 ((rd_T65 l0 x14_1).f4.f2).length c340_11]] ?_; (with_reducible refine (change_Check.calls ((rd_T65 l0 x14_1).f0) ((rd_T65 l0 x14_1).f1) ((rd_T65 l0 x14_1).f2.f0) ((rd_T65 l0 x14_1).f2.f1.f0) ((rd_T65 l0 x14_1).f2.f1.f1) _ _ ((rd_T65 l0 x14_1).f2.f2) ((rd_T65 l0 x14_1).f3.f0) _ _ ((rd_T65 l0 x14_1).f3.f1) _ _ ((rd_T65 l0 x14_1).f3.f2) ((rd_T65 l0 x14_1).f4.f0) _ _ ((rd_T65 l0 x14_1).f4.f1) _ _ ((rd_T65 l0 x14_1).f4.f2) t346 _ ?side1 ?side2 ?side3 ?side4 ?side5 ?side6 ?side7 ?side8 ?side9 ?side10 A9.out).mono ?_); (case side1 => exact cl HR340_5); (case side2 => exact HC340_5.out); (case side3 => exact cl HR340_7); (case side4 => exact HC340_7.out); (case side5 => exact cl HR340_8); (case side6 => exact HC340_8.out); (case side7 => exact cl HR340_10); (case side8 => exact HC340_10.out); (case side9 => exact cl HR340_11); (case side10 => exact HC340_11.out); rintro e w75 ⟨rfl, hb⟩; refine ⟨_, rfl, ?_⟩; replace HO344 := aM (rB (rl HO344) hb); replace HI338 := aM (IsS68.below (iS68 HI338) hb); replace BK341 := aM (kB (kl BK341) hb); replace HB := aM (bS (iB68 HB) hb); (try clear hb)))
       go_roundg k1
       case measure => have := HK1.out; omega
       case rel => exact ⟨(wrap64 (x14_1 + 1)), (t345), (by first | rfl | (simp; done) | (simp [*]; done)), H', ⟨by have := HK1.out; omega⟩, ⟨iS68 HI338⟩, ⟨iB68 HB⟩⟩
     ·rw [if_neg c7] at H
      exact absurd H (by simp)
    ·rw [if_neg c6] at H
     exact absurd H (by simp)
   ·rw [if_neg c5] at H
    have c5b0 : decide (x14_1 < (l0.length : Int)) = false := decide_eq_false c5
    clear c5
    obtain rfl := Option.some.inj H
    obtain ⟨HGz76, hgz76⟩ := HI338.out
    have hcz76_0 := cellS68_0 HGz76
    have hfz76_0 := kF HGz76 0
    clear HGz76 hgz76
    go_wp2
    go_ret
    exact ⟨by first | rfl | (simp [errW_none, errW_some] <;> rfl) | (simp [*, errW_none, errW_some] <;> rfl), iB68 HB⟩
end Go.Proofs.Ytefambkodalomaa.PAll
