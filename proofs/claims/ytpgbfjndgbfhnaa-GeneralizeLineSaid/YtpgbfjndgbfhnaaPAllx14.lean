-- out of a driver of this session's prover over the kit's print: Lean checks it
import Derived.Test.YtpgbfjndgbfhnaaPAllx0
import Derived.Test.YtpgbfjndgbfhnaaPAllx3
import Derived.Test.YtpgbfjndgbfhnaaPAllx13
namespace Go.Proofs.Ytpgbfjndgbfhnaa.PAll
open Go.Proofs.YtpgbfjndgbfhnaaG Go.Shelf Go.Lib
open Go.RowKit Go.Proofs.YtpgbfjndgbfhnaaW.PrintWords Go.Proofs.YtpgbfjndgbfhnaaW.PrintLast Go.Proofs.YtpgbfjndgbfhnaaW.PrintMore
attribute [local go_sem] max2_int min2_int max_two min_two max_three min_three max_four min_four   -- for this text's walks alone
set_option linter.unusedVariables false
set_option linter.unusedSimpArgs false
mutual
def mapmakerref26_Line.l0 : Nat → List (S40) → Int → Int → List (S40) → List Int → List (S80) → Option (Int × (List (S40)) × List Int × (List (S80)))
 | 0, _, _, _, _, _, _ => none
 | k + 1, x1, x2, x257000, x257001, x257002, x257003 => mapmakerref26_Line.l1 k x1 x2 x257001 (-1) 1 x257000 x257001 x257002 x257003
def mapmakerref26_Line.l1 : Nat → List (S40) → Int → List (S40) → Int → Int → Int → List (S40) → List Int → List (S80) → Option (Int × (List (S40)) × List Int × (List (S80)))
 | 0, _, _, _, _, _, _, _, _, _ => none
 | k + 1, x1, x2, x7, x8, x9, x257000, x257001, x257002, x257003 => if (wrap64 (x9 + 1)) < (x7.length : Int) then (if 0 ≤ x9 then (if x9 < (x7.length : Int) then ((mapmakerref26_Has.f k x1 ((rd_T40 x7 x9).f0) ((rd_T40 x7 x9).f1)).bind fun t260 => (if t260 = true then (mapmakerref26_Line.l1 k x1 x2 x7 x8 (wrap64 (x9 + 1)) x257000 x257001 x257002 x257003) else ((mapmakerref26_size.f x7 x9).bind fun t261 => (if t261 ≤ x2 then (if x8 < 0 then (mapmakerref26_Line.l1 k x1 x2 x7 x9 (wrap64 (x9 + 1)) x257000 x257001 x257002 x257003) else ((mapmakerref26_size.f x7 x9).bind fun t262 => ((mapmakerref26_size.f x7 x8).bind fun t263 => (if t262 < t263 then (mapmakerref26_Line.l1 k x1 x2 x7 x9 (wrap64 (x9 + 1)) x257000 x257001 x257002 x257003) else (mapmakerref26_Line.l1 k x1 x2 x7 x8 (wrap64 (x9 + 1)) x257000 x257001 x257002 x257003))))) else (mapmakerref26_Line.l1 k x1 x2 x7 x8 (wrap64 (x9 + 1)) x257000 x257001 x257002 x257003))))) else (none)) else (none)) else (if x8 < 0 then (some (x257000, x257001, x257002, x257003)) else (mapmakerref26_Line.l2 k x1 x2 x7 x8 ([] : List (S40)) ([] : List Int) 0 x257000 x257001 x257002 x257003))
def mapmakerref26_Line.l2 : Nat → List (S40) → Int → List (S40) → Int → List (S40) → List Int → Int → Int → List (S40) → List Int → List (S80) → Option (Int × (List (S40)) × List Int × (List (S80)))
 | 0, _, _, _, _, _, _, _, _, _, _, _ => none
 | k + 1, x1, x2, x7, x8, x10, x11, x12, x257000, x257001, x257002, x257003 => if x12 < (x7.length : Int) then (if x12 = x8 then (mapmakerref26_Line.l2 k x1 x2 x7 x8 x10 x11 (wrap64 (x12 + 1)) x257000 x257001 x257002 x257003) else (if 0 ≤ x12 then (if x10.length < 8796093022208 then (if x12 < (x257002.length : Int) then (if x11.length < 17592186044416 then (mapmakerref26_Line.l2 k x1 x2 x7 x8 (x10 ++ [(⟨(rd_T40 x7 x12).f0, (rd_T40 x7 x12).f1⟩ : S40)]) (x11 ++ [rd x257002 x12]) (wrap64 (x12 + 1)) x257000 x257001 x257002 x257003) else (none)) else (none)) else (none)) else (none))) else (mapmakerref26_Line.l0 k x1 x2 x257000 x10 x11 x257003)
end
def mapmakerref26_Line.f (k : Nat) (a0_0 : Int) (l0_1 : List (S40)) (l0_2 : List Int) (l0_3 : List (S80)) (l1 : List (S40)) (a2 : Int) : Option (Int × (List (S40)) × List Int × (List (S80))) := (mapmakerref26_Good.f k a0_0 l0_1 l0_2 l0_3).bind fun t258 => (if t258 = true then (mapmakerref26_Line.l0 k l1 a2 a0_0 l0_1 l0_2 l0_3) else (some (a0_0, l0_1, l0_2, l0_3)))
theorem mapmakerref26_Line.mono_l : ∀ k, (∀ y0 y1 y2 y3 y4 y5, LeO (mapmakerref26_Line.l0 k y0 y1 y2 y3 y4 y5) (mapmakerref26_Line.l0 (k + 1) y0 y1 y2 y3 y4 y5)) ∧ (∀ y0 y1 y2 y3 y4 y5 y6 y7 y8, LeO (mapmakerref26_Line.l1 k y0 y1 y2 y3 y4 y5 y6 y7 y8) (mapmakerref26_Line.l1 (k + 1) y0 y1 y2 y3 y4 y5 y6 y7 y8)) ∧ (∀ y0 y1 y2 y3 y4 y5 y6 y7 y8 y9 y10, LeO (mapmakerref26_Line.l2 k y0 y1 y2 y3 y4 y5 y6 y7 y8 y9 y10) (mapmakerref26_Line.l2 (k + 1) y0 y1 y2 y3 y4 y5 y6 y7 y8 y9 y10))
 | 0 => ⟨fun _ _ _ _ _ _ r h => by simp [mapmakerref26_Line.l0] at h, fun _ _ _ _ _ _ _ _ _ r h => by simp [mapmakerref26_Line.l1] at h, fun _ _ _ _ _ _ _ _ _ _ _ r h => by simp [mapmakerref26_Line.l2] at h⟩
 | k + 1 => by
  obtain ⟨ih0, ih1, ih2⟩ := mapmakerref26_Line.mono_l k
  refine ⟨?_, ?_, ?_⟩
  ·intro y0 y1 y2 y3 y4 y5
   unfold mapmakerref26_Line.l0
   repeat' first
   | (with_reducible exact ih0 _ _ _ _ _ _)
   | (with_reducible exact ih1 _ _ _ _ _ _ _ _ _)
   | (with_reducible exact ih2 _ _ _ _ _ _ _ _ _ _ _)
   | (with_reducible exact mapmakerref26_Good.mono _ _ _ _ _)
   | (with_reducible exact mapmakerref26_Has.mono _ _ _ _)
   | (with_reducible exact LeO.refl _)
   | (with_reducible exact LeO.none _)
   | (with_reducible refine LeO.ite ?_ ?_)
   | (with_reducible refine LeO.bind ?_ (fun _ => ?_))
   | exact ih0 _ _ _ _ _ _
   | exact ih1 _ _ _ _ _ _ _ _ _
   | exact ih2 _ _ _ _ _ _ _ _ _ _ _
   | exact mapmakerref26_Good.mono _ _ _ _ _
   | exact mapmakerref26_Has.mono _ _ _ _
   | exact LeO.none _
   | refine LeO.ite ?_ ?_
   | refine LeO.bind ?_ (fun _ => ?_)
  ·intro y0 y1 y2 y3 y4 y5 y6 y7 y8
   unfold mapmakerref26_Line.l1
   repeat' first
   | (with_reducible exact ih0 _ _ _ _ _ _)
   | (with_reducible exact ih1 _ _ _ _ _ _ _ _ _)
   | (with_reducible exact ih2 _ _ _ _ _ _ _ _ _ _ _)
   | (with_reducible exact mapmakerref26_Good.mono _ _ _ _ _)
   | (with_reducible exact mapmakerref26_Has.mono _ _ _ _)
   | (with_reducible exact LeO.refl _)
   | (with_reducible exact LeO.none _)
   | (with_reducible refine LeO.ite ?_ ?_)
   | (with_reducible refine LeO.bind ?_ (fun _ => ?_))
   | exact ih0 _ _ _ _ _ _
   | exact ih1 _ _ _ _ _ _ _ _ _
   | exact ih2 _ _ _ _ _ _ _ _ _ _ _
   | exact mapmakerref26_Good.mono _ _ _ _ _
   | exact mapmakerref26_Has.mono _ _ _ _
   | exact LeO.none _
   | refine LeO.ite ?_ ?_
   | refine LeO.bind ?_ (fun _ => ?_)
  ·intro y0 y1 y2 y3 y4 y5 y6 y7 y8 y9 y10
   unfold mapmakerref26_Line.l2
   repeat' first
   | (with_reducible exact ih0 _ _ _ _ _ _)
   | (with_reducible exact ih1 _ _ _ _ _ _ _ _ _)
   | (with_reducible exact ih2 _ _ _ _ _ _ _ _ _ _ _)
   | (with_reducible exact mapmakerref26_Good.mono _ _ _ _ _)
   | (with_reducible exact mapmakerref26_Has.mono _ _ _ _)
   | (with_reducible exact LeO.refl _)
   | (with_reducible exact LeO.none _)
   | (with_reducible refine LeO.ite ?_ ?_)
   | (with_reducible refine LeO.bind ?_ (fun _ => ?_))
   | exact ih0 _ _ _ _ _ _
   | exact ih1 _ _ _ _ _ _ _ _ _
   | exact ih2 _ _ _ _ _ _ _ _ _ _ _
   | exact mapmakerref26_Good.mono _ _ _ _ _
   | exact mapmakerref26_Has.mono _ _ _ _
   | exact LeO.none _
   | refine LeO.ite ?_ ?_
   | refine LeO.bind ?_ (fun _ => ?_)
theorem mapmakerref26_Line.mono : ∀ a0 a1 a2 a3 a4 a5 k, LeO (mapmakerref26_Line.f k a0 a1 a2 a3 a4 a5) (mapmakerref26_Line.f (k + 1) a0 a1 a2 a3 a4 a5) := by
 intro a0 a1 a2 a3 a4 a5 k
 obtain ⟨ih0, ih1, ih2⟩ := mapmakerref26_Line.mono_l k
 unfold mapmakerref26_Line.f
 repeat' first
   | (with_reducible exact ih0 _ _ _ _ _ _)
   | (with_reducible exact ih1 _ _ _ _ _ _ _ _ _)
   | (with_reducible exact ih2 _ _ _ _ _ _ _ _ _ _ _)
   | (with_reducible exact mapmakerref26_Good.mono _ _ _ _ _)
   | (with_reducible exact mapmakerref26_Has.mono _ _ _ _)
   | (with_reducible exact LeO.refl _)
   | (with_reducible exact LeO.none _)
   | (with_reducible refine LeO.ite ?_ ?_)
   | (with_reducible refine LeO.bind ?_ (fun _ => ?_))
   | exact ih0 _ _ _ _ _ _
   | exact ih1 _ _ _ _ _ _ _ _ _
   | exact ih2 _ _ _ _ _ _ _ _ _ _ _
   | exact mapmakerref26_Good.mono _ _ _ _ _
   | exact mapmakerref26_Has.mono _ _ _ _
   | exact LeO.none _
   | refine LeO.ite ?_ ?_
   | refine LeO.bind ?_ (fun _ => ?_)
set_option maxHeartbeats 8000000 in
set_option maxRecDepth 100000 in
theorem mapmakerref26_Line.calls (k : Nat) (a0_0 : Int) (P0_1_ : Nat → Prop) (A0_1 : Option Addr) (c0_1 : Nat) (l0_1 : List (S40)) (P0_2_ : Nat → Prop) (A0_2 : Option Addr) (c0_2 : Nat) (l0_2 : List Int) (P0_3_ : Nat → Prop) (A0_3 : Option Addr) (c0_3 : Nat) (l0_3 : List (S80)) (A1 : Option Addr) (c1 : Nat) (l1 : List (S40)) (a2 : Int) (r1 : Int) (r2 : List (S40)) (r3 : List Int) (r4 : List (S80)) (w : World) (hs0_1 : Kd.V k40 40 w w.heap.size (fun k_ => P0_1_ k_) (.slice A0_1 l0_1.length c0_1) l0_1) (hs0_2 : Kd.V (Kd.int .i64) 3 w w.heap.size (fun k_ => P0_2_ k_) (.slice A0_2 l0_2.length c0_2) l0_2) (hs0_3 : Kd.V k80 80 w w.heap.size (fun k_ => P0_3_ k_) (.slice A0_3 l0_3.length c0_3) l0_3) (hr1 : Kd.C k40 w A1 l1.length l1) (hc1 : l1.length ≤ c1) (h : mapmakerref26_Line.f k a0_0 l0_1 l0_2 l0_3 l1 a2 = some (r1, r2, r3, r4)) :
  Calls Try.prog 14 #[.agg #[.int .i64 a0_0, .slice A0_1 l0_1.length c0_1, .slice A0_2 l0_2.length c0_2, .slice A0_3 l0_3.length c0_3], .slice A1 l1.length c1, .int .i64 a2] w fun e w' => ∃ v1_ v2_ v3_ : Value, e = .returned (.agg #[.int .i64 r1, v1_, v2_, v3_]) ∧ Kd.V k40 40 w' w.heap.size (fun k_ => ((P0_1_ k_ ∨ P0_2_ k_ ∨ P0_3_ k_) ∨ w.heap.size ≤ k_)) v1_ r2 ∧ Kd.V (Kd.int .i64) 3 w' w.heap.size (fun k_ => ((P0_1_ k_ ∨ P0_2_ k_ ∨ P0_3_ k_) ∨ w.heap.size ≤ k_)) v2_ r3 ∧ Kd.V k80 80 w' w.heap.size (fun k_ => ((P0_1_ k_ ∨ P0_2_ k_ ∨ P0_3_ k_) ∨ w.heap.size ≤ k_)) v3_ r4 ∧ Below w.heap.size w w' := by
 have hu31 := Try.underlying31
 have hu40 := Try.underlying40
 have HO0_1 := aM (show Kd.V k40 40 w w.heap.size (fun k_ => ((P0_1_ k_ ∨ P0_2_ k_ ∨ P0_3_ k_) ∨ w.heap.size ≤ k_)) (.slice A0_1 l0_1.length c0_1) l0_1 from Kd.V_mono hs0_1 (fun k_ hk => .inl (.inl hk)))
 have HO0_2 := aM (show Kd.V (Kd.int .i64) 3 w w.heap.size (fun k_ => ((P0_1_ k_ ∨ P0_2_ k_ ∨ P0_3_ k_) ∨ w.heap.size ≤ k_)) (.slice A0_2 l0_2.length c0_2) l0_2 from Kd.V_mono hs0_2 (fun k_ hk => .inl (.inr (.inl hk))))
 have HO0_3 := aM (show Kd.V k80 80 w w.heap.size (fun k_ => ((P0_1_ k_ ∨ P0_2_ k_ ∨ P0_3_ k_) ∨ w.heap.size ≤ k_)) (.slice A0_3 l0_3.length c0_3) l0_3 from Kd.V_mono hs0_3 (fun k_ hk => .inl (.inr (.inr hk))))
 have HR1 := aM hr1
 have HC1 := aM hc1
 clear hr1 hc1
 have HB := aM (Below.refl w.heap.size w)
 have H : ((mapmakerref26_Good.f k a0_0 l0_1 l0_2 l0_3).bind fun t258 => (if t258 = true then (mapmakerref26_Line.l0 k l1 a2 a0_0 l0_1 l0_2 l0_3) else (some (a0_0, l0_1, l0_2, l0_3)))) = some (r1, r2, r3, r4) := h
 clear h
 replace H := Option.bind_eq_some_iff.mp H
 obtain ⟨t258, A40, H⟩ := H
 replace H : (if t258 = true then (mapmakerref26_Line.l0 k l1 a2 a0_0 l0_1 l0_2 l0_3) else (some (a0_0, l0_1, l0_2, l0_3))) = some (r1, r2, r3, r4) := H
 have A4 := aM A40
 clear A40
 by_cases c5 : t258 = true
 ·subst c5
  have H1 : (mapmakerref26_Line.l0 k l1 a2 a0_0 l0_1 l0_2 l0_3) = some (r1, r2, r3, r4) := by rw [if_pos rfl] at H; exact H
  clear H
  have H := H1
  clear H1
  have H' := aM H
  clear H
  go_enter Try.func14, Try.ntmps14
  go_wp2_with (first | ((with_reducible refine gate_dst (N := 3) rfl ?_); refine box_event ?hg (N := 3) ?hd (cs := #[.int .i64 a0_0, .slice A0_1 l0_1.length c0_1, .slice A0_2 l0_2.length c0_2, .slice A0_3 l0_3.length c0_3]) (t := 31) ?hr ?_; (case hd => rfl); (case hg => rfl); (case hr => first | (go_simp; done) | (go_simp; rfl)); intro gb256 hg w6 hbox hb; have n0_ := aM (Kd.V_below (Kd.V_elderB (by (with_reducible repeat (first | apply Kd.V_alloc | apply Kd.V_drewN | apply Kd.V_drew)); exact HO0_1.out) gb256 (Nat.le_of_eq hg.symm)) hb); have n1_ := aM (Kd.V_below (Kd.V_elderB (by (with_reducible repeat (first | apply Kd.V_alloc | apply Kd.V_drewN | apply Kd.V_drew)); exact HO0_2.out) gb256 (Nat.le_of_eq hg.symm)) hb); have n2_ := aM (Kd.V_below (Kd.V_elderB (by (with_reducible repeat (first | apply Kd.V_alloc | apply Kd.V_drewN | apply Kd.V_drew)); exact HO0_3.out) gb256 (Nat.le_of_eq hg.symm)) hb); have n3_ := aM (bS (bl) hb); have n4_ := aM (hbox); have n5_ := aM ((by rw [hg]; exact (below_size (bl)) : w.heap.size ≤ gb256)); have n6_ := aM ((by rw [hg]; exact (below_size (bl)) : w.heap.size ≤ gb256)); clear HO0_1 HO0_2 HO0_3 HB; have HO0_1 := n0_; have HO0_2 := n1_; have HO0_3 := n2_; have HB := n3_; have BK256 := n4_; have GW256 := n5_; have GE256 := n6_; clear n0_ n1_ n2_ n3_ n4_ n5_ n6_ hb hbox hg) | ((with_reducible refine gate_dst (N := 6) rfl ?_); refine box_event ?hg (N := 6) ?hd (cs := #[.int .i64 0, .slice none 0 0, .slice none 0 0, .slice none 0 0]) (t := 31) ?hr ?_; (case hd => rfl); (case hg => rfl); (case hr => first | (go_simp; done) | (go_simp; rfl)); intro gb257 hg w7 hbox hb; have n0_ := aM (Kd.V_below (Kd.V_elderB (by (with_reducible repeat (first | apply Kd.V_alloc | apply Kd.V_drewN | apply Kd.V_drew)); exact HO0_1.out) gb257 (Nat.le_of_eq hg.symm)) hb); have n1_ := aM (Kd.V_below (Kd.V_elderB (by (with_reducible repeat (first | apply Kd.V_alloc | apply Kd.V_drewN | apply Kd.V_drew)); exact HO0_2.out) gb257 (Nat.le_of_eq hg.symm)) hb); have n2_ := aM (Kd.V_below (Kd.V_elderB (by (with_reducible repeat (first | apply Kd.V_alloc | apply Kd.V_drewN | apply Kd.V_drew)); exact HO0_3.out) gb257 (Nat.le_of_eq hg.symm)) hb); have n3_ := aM (kB (g := gb256) (o := .cells #[.int .i64 a0_0, .slice A0_1 l0_1.length c0_1, .slice A0_2 l0_2.length c0_2, .slice A0_3 l0_3.length c0_3] 31 (0, 0)) (kl BK256) hb); have n4_ := aM (bS (bl) hb); have n5_ := aM (hbox); have n6_ := aM ((by rw [hg]; exact (below_size (bl)) : w.heap.size ≤ gb257)); have n7_ := aM ((by rw [hg]; exact (below_size (bl)) : w.heap.size ≤ gb257)); have n8_ := aM ((by rw [hg]; exact Nat.ne_of_lt (blk_lt (g := gb256) (o := .cells #[.int .i64 a0_0, .slice A0_1 l0_1.length c0_1, .slice A0_2 l0_2.length c0_2, .slice A0_3 l0_3.length c0_3] 31 (0, 0)) (kl BK256)) : gb256 ≠ gb257)); have n9_ := aM ((by rw [hg]; exact Nat.ne_of_gt (blk_lt (g := gb256) (o := .cells #[.int .i64 a0_0, .slice A0_1 l0_1.length c0_1, .slice A0_2 l0_2.length c0_2, .slice A0_3 l0_3.length c0_3] 31 (0, 0)) (kl BK256)) : gb257 ≠ gb256)); clear HO0_1 HO0_2 HO0_3 BK256 HB; have HO0_1 := n0_; have HO0_2 := n1_; have HO0_3 := n2_; have BK256 := n3_; have HB := n4_; have BK257 := n5_; have GW257 := n6_; have GE257 := n7_; have NB256_257 := n8_; have NB257_256 := n9_; clear n0_ n1_ n2_ n3_ n4_ n5_ n6_ n7_ n8_ n9_ hb hbox hg; have hnb8 := NB256_257.out; have hnc8 := NB257_256.out; have hcz9_0 : w7.cell? ⟨gb256, 0, none⟩ = some (.int .i64 a0_0) := (kC BK256.out 0).trans rfl; have hcz9_1 : w7.cell? ⟨gb256, 1, none⟩ = some (.slice A0_1 l0_1.length c0_1) := (kC BK256.out 1).trans rfl; have hcz9_2 : w7.cell? ⟨gb256, 2, none⟩ = some (.slice A0_2 l0_2.length c0_2) := (kC BK256.out 2).trans rfl; have hcz9_3 : w7.cell? ⟨gb256, 3, none⟩ = some (.slice A0_3 l0_3.length c0_3) := (kC BK256.out 3).trans rfl; have hfz9_0 := kF BK256.out 0; have hfz9_1 := kF BK256.out 1; have hfz9_2 := kF BK256.out 2; have hfz9_3 := kF BK256.out 3) | ((with_reducible refine gate_callee (f := 18) rfl ?_); refine goesL_ (some 14) rfl rfl Try.func18 (by kernel_rfl) rfl #[.agg #[.int .i64 a0_0, .slice A0_1 l0_1.length c0_1, .slice A0_2 l0_2.length c0_2, .slice A0_3 l0_3.length c0_3]] rfl (by (try simp only [List.map_toArray, List.map_cons, List.map_nil]); first | done | rfl | (simp only [List.length_drop, List.length_take]; rfl)) ?_; (with_reducible refine (mapmakerref26_Good.calls k a0_0 _ _ l0_1 _ _ l0_2 _ _ l0_3 true _ ?side1 ?side2 ?side3 ?side4 ?side5 ?side6 A4.out).mono ?_); (case side1 => repeat (first | exact (Kd.V_reads' HO0_1.out).2.2 | (with_reducible refine cA ?_ _) | (with_reducible refine cN ?_ _) | (with_reducible refine cD ?_))); (case side2 => exact (Kd.V_reads' HO0_1.out).2.1); (case side3 => repeat (first | exact (Kd.V_reads' HO0_2.out).2.2 | (with_reducible refine cA ?_ _) | (with_reducible refine cN ?_ _) | (with_reducible refine cD ?_))); (case side4 => exact (Kd.V_reads' HO0_2.out).2.1); (case side5 => repeat (first | exact (Kd.V_reads' HO0_3.out).2.2 | (with_reducible refine cA ?_ _) | (with_reducible refine cN ?_ _) | (with_reducible refine cD ?_))); (case side6 => exact (Kd.V_reads' HO0_3.out).2.1); rintro e w10 ⟨rfl, hb⟩; refine ⟨_, rfl, ?_⟩; have n0_ := aM (Kd.V_below (by (with_reducible repeat (first | apply Kd.V_alloc | apply Kd.V_drewN | apply Kd.V_drew)); exact HO0_1.out) hb); have n1_ := aM (Kd.V_below (by (with_reducible repeat (first | apply Kd.V_alloc | apply Kd.V_drewN | apply Kd.V_drew)); exact HO0_2.out) hb); have n2_ := aM (Kd.V_below (by (with_reducible repeat (first | apply Kd.V_alloc | apply Kd.V_drewN | apply Kd.V_drew)); exact HO0_3.out) hb); have n3_ := aM (kB (g := gb256) (o := .cells #[.int .i64 a0_0, .slice A0_1 l0_1.length c0_1, .slice A0_2 l0_2.length c0_2, .slice A0_3 l0_3.length c0_3] 31 (0, 0)) (kl BK256) hb); have n4_ := aM (kB (g := gb257) (o := .cells #[.int .i64 0, .slice none 0 0, .slice none 0 0, .slice none 0 0] 31 (0, 0)) (kl BK257) hb); have n5_ := aM (bS (bl) hb); clear HO0_1 HO0_2 HO0_3 BK256 BK257 HB; have HO0_1 := n0_; have HO0_2 := n1_; have HO0_3 := n2_; have BK256 := n3_; have BK257 := n4_; have HB := n5_; clear n0_ n1_ n2_ n3_ n4_ n5_; (try clear hb); (try clear hb2); (try clear hk); (try clear hi)))
  go_loopg [] k (fun kq w' => ∃ (x257001_1 : List (S40)) (x257002_1 : List Int) (x258000_1 : Int) (u257001 : Value) (u257002 : Value), Aside0 (mapmakerref26_Line.l0 kq l1 a2 a0_0 x257001_1 x257002_1 l0_3 = some (r1, r2, r3, r4)) ∧ Aside0 (kq ≤ k) ∧ Aside0 (Kd.V k40 40 w' w.heap.size (fun k_ => ((P0_1_ k_ ∨ P0_2_ k_ ∨ P0_3_ k_) ∨ w.heap.size ≤ k_) ∧ k_ ≠ gb256 ∧ k_ ≠ gb257) u257001 x257001_1) ∧ Aside0 (Kd.V (Kd.int .i64) 3 w' w.heap.size (fun k_ => ((P0_1_ k_ ∨ P0_2_ k_ ∨ P0_3_ k_) ∨ w.heap.size ≤ k_) ∧ k_ ≠ gb256 ∧ k_ ≠ gb257) u257002 x257002_1) ∧ Aside0 (Kd.V k80 80 w' w.heap.size (fun k_ => ((P0_1_ k_ ∨ P0_2_ k_ ∨ P0_3_ k_) ∨ w.heap.size ≤ k_) ∧ k_ ≠ gb256 ∧ k_ ≠ gb257) (.slice A0_3 l0_3.length c0_3) l0_3) ∧ Aside0 (w'.heap[gb256]? = some (.cells #[.int .i64 a0_0, u257001, u257002, (.slice A0_3 l0_3.length c0_3)] 31 (0, 0))) ∧ Aside0 (w'.heap[gb257]? = some (.cells #[.int .i64 x258000_1, (.slice none 0 0), (.slice none 0 0), (.slice none 0 0)] 31 (0, 0))) ∧ Aside0 (Below w.heap.size w w'))
  case atStart => exact ⟨(l0_1), (l0_2), (0), (.slice A0_1 l0_1.length c0_1), (.slice A0_2 l0_2.length c0_2), H', ⟨Nat.le_refl _⟩, ⟨by (with_reducible repeat (first | apply Kd.V_alloc | apply Kd.V_drewN | apply Kd.V_drew)); exact Kd.V_mono HO0_1.out (fun _ hk => ⟨hk.1.1, ⟨hk.1.2, hk.2⟩⟩)⟩, ⟨by (with_reducible repeat (first | apply Kd.V_alloc | apply Kd.V_drewN | apply Kd.V_drew)); exact Kd.V_mono HO0_2.out (fun _ hk => ⟨hk.1.1, ⟨hk.1.2, hk.2⟩⟩)⟩, ⟨by (with_reducible repeat (first | apply Kd.V_alloc | apply Kd.V_drewN | apply Kd.V_drew)); exact Kd.V_mono HO0_3.out (fun _ hk => ⟨hk.1.1, ⟨hk.1.2, hk.2⟩⟩)⟩, ⟨by (with_reducible repeat (first | refine kN ?_ _ | refine kD ?_ | refine kA ?_ _)); exact BK256.out⟩, ⟨by (with_reducible repeat (first | refine kN ?_ _ | refine kD ?_ | refine kA ?_ _)); exact BK257.out⟩, ⟨bl⟩⟩
  case round =>
   clear H'
   try clear c1
   try clear p2
   try clear c5
   try clear c8
   try clear hcz9_0
   try clear hcz9_1
   try clear hcz9_2
   try clear hcz9_3
   try clear hfz9_0
   try clear hfz9_1
   try clear hfz9_2
   try clear hfz9_3
   obtain ⟨x257001_1, x257002_1, x258000_1, u257001, u257002, HA, HK1, HO_257001, HO_257002, HO_257003, BK256, BK257, HB⟩ := hrel
   cases gk with
   | zero => exact absurd HA.out (by simp [mapmakerref26_Line.l0])
   | succ k1 =>
    have H := HA.out
    clear HA
    simp only [mapmakerref26_Line.l0] at H
    have H' := aM H
    clear H
    have hnb11 := NB256_257.out
    have hnc11 := NB257_256.out
    have hcz12_0 : wr.cell? ⟨gb256, 0, none⟩ = some (.int .i64 a0_0) := (kC BK256.out 0).trans rfl
    have hcz12_1 : wr.cell? ⟨gb256, 1, none⟩ = some (u257001) := (kC BK256.out 1).trans rfl
    have hcz12_2 : wr.cell? ⟨gb256, 2, none⟩ = some (u257002) := (kC BK256.out 2).trans rfl
    have hcz12_3 : wr.cell? ⟨gb256, 3, none⟩ = some (.slice A0_3 l0_3.length c0_3) := (kC BK256.out 3).trans rfl
    have hfz12_0 := kF BK256.out 0
    have hfz12_1 := kF BK256.out 1
    have hfz12_2 := kF BK256.out 2
    have hfz12_3 := kF BK256.out 3
    go_wp2
    go_loopg [8, 9] k1 (fun kq v8 v9 w' => ∃ (x8_2 : Int) (x9_2 : Int), v8 = .int .i64 x8_2 ∧ v9 = .int .i64 x9_2 ∧ Aside0 (mapmakerref26_Line.l1 kq l1 a2 x257001_1 x8_2 x9_2 a0_0 x257001_1 x257002_1 l0_3 = some (r1, r2, r3, r4)) ∧ Aside0 (kq ≤ k1) ∧ Aside0 (Kd.V k40 40 w' w.heap.size (fun k_ => ((P0_1_ k_ ∨ P0_2_ k_ ∨ P0_3_ k_) ∨ w.heap.size ≤ k_) ∧ k_ ≠ gb256 ∧ k_ ≠ gb257) u257001 x257001_1) ∧ Aside0 (Kd.V k40 40 w' w.heap.size (fun k_ => ((P0_1_ k_ ∨ P0_2_ k_ ∨ P0_3_ k_) ∨ w.heap.size ≤ k_) ∧ k_ ≠ gb256 ∧ k_ ≠ gb257) u257001 x257001_1) ∧ Aside0 (Kd.V (Kd.int .i64) 3 w' w.heap.size (fun k_ => ((P0_1_ k_ ∨ P0_2_ k_ ∨ P0_3_ k_) ∨ w.heap.size ≤ k_) ∧ k_ ≠ gb256 ∧ k_ ≠ gb257) u257002 x257002_1) ∧ Aside0 (Kd.V k80 80 w' w.heap.size (fun k_ => ((P0_1_ k_ ∨ P0_2_ k_ ∨ P0_3_ k_) ∨ w.heap.size ≤ k_) ∧ k_ ≠ gb256 ∧ k_ ≠ gb257) (.slice A0_3 l0_3.length c0_3) l0_3) ∧ Aside0 (w'.heap[gb256]? = some (.cells #[.int .i64 a0_0, u257001, u257002, (.slice A0_3 l0_3.length c0_3)] 31 (0, 0))) ∧ Aside0 (w'.heap[gb257]? = some (.cells #[.int .i64 x258000_1, (.slice none 0 0), (.slice none 0 0), (.slice none 0 0)] 31 (0, 0))) ∧ Aside0 (Below w.heap.size w w'))
    case atStart => exact ⟨((-1)), (1), (by first | rfl | (simp; done) | (simp [*]; done)), (by first | rfl | (simp; done) | (simp [*]; done)), H', ⟨Nat.le_refl _⟩, ⟨by (with_reducible repeat (first | apply Kd.V_alloc | apply Kd.V_drewN | apply Kd.V_drew)); exact HO_257001.out⟩, ⟨by (with_reducible repeat (first | apply Kd.V_alloc | apply Kd.V_drewN | apply Kd.V_drew)); exact HO_257001.out⟩, ⟨by (with_reducible repeat (first | apply Kd.V_alloc | apply Kd.V_drewN | apply Kd.V_drew)); exact HO_257002.out⟩, ⟨by (with_reducible repeat (first | apply Kd.V_alloc | apply Kd.V_drewN | apply Kd.V_drew)); exact HO_257003.out⟩, ⟨by (with_reducible repeat (first | refine kN ?_ _ | refine kD ?_ | refine kA ?_ _)); exact BK256.out⟩, ⟨by (with_reducible repeat (first | refine kN ?_ _ | refine kD ?_ | refine kA ?_ _)); exact BK257.out⟩, ⟨bl⟩⟩
    case round =>
     clear H'
     try clear c1
     try clear p2
     try clear c5
     try clear c8
     try clear c11
     try clear hcz12_0
     try clear hcz12_1
     try clear hcz12_2
     try clear hcz12_3
     try clear hcz9_0
     try clear hcz9_1
     try clear hcz9_2
     try clear hcz9_3
     try clear hfz12_0
     try clear hfz12_1
     try clear hfz12_2
     try clear hfz12_3
     try clear hfz9_0
     try clear hfz9_1
     try clear hfz9_2
     try clear hfz9_3
     try clear p2
     obtain ⟨x8_2, x9_2, rfl, rfl, HA, HK2, HO_7, HO_257001, HO_257002, HO_257003, BK256, BK257, HB⟩ := hrel
     cases gk with
     | zero => exact absurd HA.out (by simp [mapmakerref26_Line.l1])
     | succ k2 =>
      have H := HA.out
      clear HA
      simp only [mapmakerref26_Line.l1] at H
      by_cases c13 : (wrap64 (x9_2 + 1)) < (x257001_1.length : Int)
      ·rw [if_pos c13] at H
       have c13b0 : decide ((wrap64 (x9_2 + 1)) < (x257001_1.length : Int)) = true := decide_eq_true c13
       clear c13
       by_cases c14 : 0 ≤ x9_2
       ·rw [if_pos c14] at H
        have c14b0 : decide (0 ≤ x9_2) = true := decide_eq_true c14
        clear c14
        by_cases c15 : x9_2 < (x257001_1.length : Int)
        ·rw [if_pos c15] at H
         have c15b0 : decide (x9_2 < (x257001_1.length : Int)) = true := decide_eq_true c15
         clear c15
         replace H := Option.bind_eq_some_iff.mp H
         obtain ⟨t260, A160, H⟩ := H
         replace H : (if t260 = true then (mapmakerref26_Line.l1 k2 l1 a2 x257001_1 x8_2 (wrap64 (x9_2 + 1)) a0_0 x257001_1 x257002_1 l0_3) else ((mapmakerref26_size.f x257001_1 x9_2).bind fun t261 => (if t261 ≤ a2 then (if x8_2 < 0 then (mapmakerref26_Line.l1 k2 l1 a2 x257001_1 x9_2 (wrap64 (x9_2 + 1)) a0_0 x257001_1 x257002_1 l0_3) else ((mapmakerref26_size.f x257001_1 x9_2).bind fun t262 => ((mapmakerref26_size.f x257001_1 x8_2).bind fun t263 => (if t262 < t263 then (mapmakerref26_Line.l1 k2 l1 a2 x257001_1 x9_2 (wrap64 (x9_2 + 1)) a0_0 x257001_1 x257002_1 l0_3) else (mapmakerref26_Line.l1 k2 l1 a2 x257001_1 x8_2 (wrap64 (x9_2 + 1)) a0_0 x257001_1 x257002_1 l0_3))))) else (mapmakerref26_Line.l1 k2 l1 a2 x257001_1 x8_2 (wrap64 (x9_2 + 1)) a0_0 x257001_1 x257002_1 l0_3)))) = some (r1, r2, r3, r4) := H
         have A16 := aM A160
         clear A160
         by_cases c17 : t260 = true
         ·subst c17
          have H1 : (mapmakerref26_Line.l1 k2 l1 a2 x257001_1 x8_2 (wrap64 (x9_2 + 1)) a0_0 x257001_1 x257002_1 l0_3) = some (r1, r2, r3, r4) := by rw [if_pos rfl] at H; exact H
          clear H
          have H := H1
          clear H1
          have H' := aM H
          clear H
          obtain ⟨Ao18, co18, eo18⟩ := Kd.V_slice HO_7.out
          subst eo18
          have p259 : 0 ≤ (x9_2 : Int) := of_decide_eq_true (by first | (with_reducible assumption) | assumption)
          have q259 : x9_2 < (x257001_1.length : Int) := of_decide_eq_true (by first | (with_reducible assumption) | assumption)
          obtain ⟨ad259, e259, hx259_0, hx259_1⟩ := at_T40 (Kd.V_reads' HO_7.out).2.2 x9_2 p259 q259
          cases e259
          replace p259 := eq_true p259
          replace q259 := eq_true q259
          go_wp2_with (first | ((with_reducible refine gate_callee (f := 19) rfl ?_); refine goesL_ (some 31) rfl rfl Try.func19 (by kernel_rfl) rfl #[.slice A1 l1.length c1, .agg #[.int .i64 ((rd_T40 x257001_1 x9_2).f0), .int .i64 ((rd_T40 x257001_1 x9_2).f1)]] rfl (by (try simp only [List.map_toArray, List.map_cons, List.map_nil]); first | done | rfl | (simp only [List.length_drop, List.length_take]; rfl)) ?_; (with_reducible refine (mapmakerref26_Has.calls k2 _ _ l1 ((rd_T40 x257001_1 x9_2).f0) ((rd_T40 x257001_1 x9_2).f1) true _ ?side1 ?side2 A16.out).mono ?_); (case side1 => repeat (first | exact (Kd.C_below HR1.out HB.out) | (with_reducible refine cA ?_ _) | (with_reducible refine cN ?_ _) | (with_reducible refine cD ?_))); (case side2 => exact HC1.out); rintro e w19 ⟨rfl, hb⟩; refine ⟨_, rfl, ?_⟩; replace HO_7 := aM (Kd.V_below (by (with_reducible repeat (first | apply Kd.V_alloc | apply Kd.V_drewN | apply Kd.V_drew)); exact HO_7.out) hb); replace HO_257001 := aM (Kd.V_below (by (with_reducible repeat (first | apply Kd.V_alloc | apply Kd.V_drewN | apply Kd.V_drew)); exact HO_257001.out) hb); replace HO_257002 := aM (Kd.V_below (by (with_reducible repeat (first | apply Kd.V_alloc | apply Kd.V_drewN | apply Kd.V_drew)); exact HO_257002.out) hb); replace HO_257003 := aM (Kd.V_below (by (with_reducible repeat (first | apply Kd.V_alloc | apply Kd.V_drewN | apply Kd.V_drew)); exact HO_257003.out) hb); replace BK256 := aM (kB (g := gb256) (o := .cells #[.int .i64 a0_0, .slice (some ad259) x257001_1.length co18, u257002, .slice A0_3 l0_3.length c0_3] 31 (0, 0)) (kl BK256) hb); replace BK257 := aM (kB (g := gb257) (o := .cells #[.int .i64 x258000_1, .slice none 0 0, .slice none 0 0, .slice none 0 0] 31 (0, 0)) (kl BK257) hb); replace HB := aM (bS (bl) hb); (try clear hb); (try clear hb2); (try clear hk); (try clear hi)))
          go_roundg k2
          case measure => have := HK1.out; have := HK2.out; omega
          case rel => exact ⟨(x8_2), (wrap64 (x9_2 + 1)), (by first | rfl | (simp; done) | (simp [*]; done)), (by first | rfl | (simp; done) | (simp [*]; done)), H', ⟨by have := HK1.out; have := HK2.out; omega⟩, ⟨by (with_reducible repeat (first | apply Kd.V_alloc | apply Kd.V_drewN | apply Kd.V_drew)); exact HO_7.out⟩, ⟨by (with_reducible repeat (first | apply Kd.V_alloc | apply Kd.V_drewN | apply Kd.V_drew)); exact HO_257001.out⟩, ⟨by (with_reducible repeat (first | apply Kd.V_alloc | apply Kd.V_drewN | apply Kd.V_drew)); exact HO_257002.out⟩, ⟨by (with_reducible repeat (first | apply Kd.V_alloc | apply Kd.V_drewN | apply Kd.V_drew)); exact HO_257003.out⟩, ⟨by (with_reducible repeat (first | refine kN ?_ _ | refine kD ?_ | refine kA ?_ _)); exact BK256.out⟩, ⟨by (with_reducible repeat (first | refine kN ?_ _ | refine kD ?_ | refine kA ?_ _)); exact BK257.out⟩, ⟨bl⟩⟩
         ·replace c17 := Bool.eq_false_iff.mpr c17
          subst c17
          have H1 : ((mapmakerref26_size.f x257001_1 x9_2).bind fun t261 => (if t261 ≤ a2 then (if x8_2 < 0 then (mapmakerref26_Line.l1 k2 l1 a2 x257001_1 x9_2 (wrap64 (x9_2 + 1)) a0_0 x257001_1 x257002_1 l0_3) else ((mapmakerref26_size.f x257001_1 x9_2).bind fun t262 => ((mapmakerref26_size.f x257001_1 x8_2).bind fun t263 => (if t262 < t263 then (mapmakerref26_Line.l1 k2 l1 a2 x257001_1 x9_2 (wrap64 (x9_2 + 1)) a0_0 x257001_1 x257002_1 l0_3) else (mapmakerref26_Line.l1 k2 l1 a2 x257001_1 x8_2 (wrap64 (x9_2 + 1)) a0_0 x257001_1 x257002_1 l0_3))))) else (mapmakerref26_Line.l1 k2 l1 a2 x257001_1 x8_2 (wrap64 (x9_2 + 1)) a0_0 x257001_1 x257002_1 l0_3))) = some (r1, r2, r3, r4) := by rw [if_neg (show ¬ (false = true) by decide)] at H; exact H
          clear H
          have H := H1
          clear H1
          replace H := Option.bind_eq_some_iff.mp H
          obtain ⟨t261, A200, H⟩ := H
          replace H : (if t261 ≤ a2 then (if x8_2 < 0 then (mapmakerref26_Line.l1 k2 l1 a2 x257001_1 x9_2 (wrap64 (x9_2 + 1)) a0_0 x257001_1 x257002_1 l0_3) else ((mapmakerref26_size.f x257001_1 x9_2).bind fun t262 => ((mapmakerref26_size.f x257001_1 x8_2).bind fun t263 => (if t262 < t263 then (mapmakerref26_Line.l1 k2 l1 a2 x257001_1 x9_2 (wrap64 (x9_2 + 1)) a0_0 x257001_1 x257002_1 l0_3) else (mapmakerref26_Line.l1 k2 l1 a2 x257001_1 x8_2 (wrap64 (x9_2 + 1)) a0_0 x257001_1 x257002_1 l0_3))))) else (mapmakerref26_Line.l1 k2 l1 a2 x257001_1 x8_2 (wrap64 (x9_2 + 1)) a0_0 x257001_1 x257002_1 l0_3)) = some (r1, r2, r3, r4) := H
          have A20 := aM A200
          clear A200
          by_cases c21 : t261 ≤ a2
          ·rw [if_pos c21] at H
           have c21b0 : decide (t261 ≤ a2) = true := decide_eq_true c21
           clear c21
           by_cases c22 : x8_2 < 0
           ·rw [if_pos c22] at H
            have c22b0 : decide (x8_2 < 0) = true := decide_eq_true c22
            clear c22
            have H' := aM H
            clear H
            obtain ⟨Ao23, co23, eo23⟩ := Kd.V_slice HO_7.out
            subst eo23
            have p259 : 0 ≤ (x9_2 : Int) := of_decide_eq_true (by first | (with_reducible assumption) | assumption)
            have q259 : x9_2 < (x257001_1.length : Int) := of_decide_eq_true (by first | (with_reducible assumption) | assumption)
            obtain ⟨ad259, e259, hx259_0, hx259_1⟩ := at_T40 (Kd.V_reads' HO_7.out).2.2 x9_2 p259 q259
            cases e259
            replace p259 := eq_true p259
            replace q259 := eq_true q259
            go_wp2_with (first | ((with_reducible refine gate_callee (f := 19) rfl ?_); refine goesL_ (some 31) rfl rfl Try.func19 (by kernel_rfl) rfl #[.slice A1 l1.length c1, .agg #[.int .i64 ((rd_T40 x257001_1 x9_2).f0), .int .i64 ((rd_T40 x257001_1 x9_2).f1)]] rfl (by (try simp only [List.map_toArray, List.map_cons, List.map_nil]); first | done | rfl | (simp only [List.length_drop, List.length_take]; rfl)) ?_; (with_reducible refine (mapmakerref26_Has.calls k2 _ _ l1 ((rd_T40 x257001_1 x9_2).f0) ((rd_T40 x257001_1 x9_2).f1) false _ ?side1 ?side2 A16.out).mono ?_); (case side1 => repeat (first | exact (Kd.C_below HR1.out HB.out) | (with_reducible refine cA ?_ _) | (with_reducible refine cN ?_ _) | (with_reducible refine cD ?_))); (case side2 => exact HC1.out); rintro e w24 ⟨rfl, hb⟩; refine ⟨_, rfl, ?_⟩; replace HO_7 := aM (Kd.V_below (by (with_reducible repeat (first | apply Kd.V_alloc | apply Kd.V_drewN | apply Kd.V_drew)); exact HO_7.out) hb); replace HO_257001 := aM (Kd.V_below (by (with_reducible repeat (first | apply Kd.V_alloc | apply Kd.V_drewN | apply Kd.V_drew)); exact HO_257001.out) hb); replace HO_257002 := aM (Kd.V_below (by (with_reducible repeat (first | apply Kd.V_alloc | apply Kd.V_drewN | apply Kd.V_drew)); exact HO_257002.out) hb); replace HO_257003 := aM (Kd.V_below (by (with_reducible repeat (first | apply Kd.V_alloc | apply Kd.V_drewN | apply Kd.V_drew)); exact HO_257003.out) hb); replace BK256 := aM (kB (g := gb256) (o := .cells #[.int .i64 a0_0, .slice (some ad259) x257001_1.length co23, u257002, .slice A0_3 l0_3.length c0_3] 31 (0, 0)) (kl BK256) hb); replace BK257 := aM (kB (g := gb257) (o := .cells #[.int .i64 x258000_1, .slice none 0 0, .slice none 0 0, .slice none 0 0] 31 (0, 0)) (kl BK257) hb); replace HB := aM (bS (bl) hb); (try clear hb); (try clear hb2); (try clear hk); (try clear hi)) | (go_at_call 35; (with_reducible refine (mapmakerref26_size.calls _ _ x257001_1 x9_2 t261 _ ?side1 ?side2 A20.out).mono ?_); (case side1 => repeat (first | exact (Kd.V_reads' HO_7.out).2.2 | (with_reducible refine cA ?_ _) | (with_reducible refine cN ?_ _) | (with_reducible refine cD ?_))); (case side2 => exact (Kd.V_reads' HO_7.out).2.1); rintro e w25 ⟨rfl, hb⟩; replace HO_7 := aM (Kd.V_below (by (with_reducible repeat (first | apply Kd.V_alloc | apply Kd.V_drewN | apply Kd.V_drew)); exact HO_7.out) hb); replace HO_257001 := aM (Kd.V_below (by (with_reducible repeat (first | apply Kd.V_alloc | apply Kd.V_drewN | apply Kd.V_drew)); exact HO_257001.out) hb); replace HO_257002 := aM (Kd.V_below (by (with_reducible repeat (first | apply Kd.V_alloc | apply Kd.V_drewN | apply Kd.V_drew)); exact HO_257002.out) hb); replace HO_257003 := aM (Kd.V_below (by (with_reducible repeat (first | apply Kd.V_alloc | apply Kd.V_drewN | apply Kd.V_drew)); exact HO_257003.out) hb); replace BK256 := aM (kB (g := gb256) (o := .cells #[.int .i64 a0_0, .slice (some ad259) x257001_1.length co23, u257002, .slice A0_3 l0_3.length c0_3] 31 (0, 0)) (kl BK256) hb); replace BK257 := aM (kB (g := gb257) (o := .cells #[.int .i64 x258000_1, .slice none 0 0, .slice none 0 0, .slice none 0 0] 31 (0, 0)) (kl BK257) hb); replace HB := aM (bS (bl) hb); (try clear hb); (try clear hb2); (try clear hk); (try clear hi)))
            go_roundg k2
            case measure => have := HK1.out; have := HK2.out; omega
            case rel => exact ⟨(x9_2), (wrap64 (x9_2 + 1)), (by first | rfl | (simp; done) | (simp [*]; done)), (by first | rfl | (simp; done) | (simp [*]; done)), H', ⟨by have := HK1.out; have := HK2.out; omega⟩, ⟨by (with_reducible repeat (first | apply Kd.V_alloc | apply Kd.V_drewN | apply Kd.V_drew)); exact HO_7.out⟩, ⟨by (with_reducible repeat (first | apply Kd.V_alloc | apply Kd.V_drewN | apply Kd.V_drew)); exact HO_257001.out⟩, ⟨by (with_reducible repeat (first | apply Kd.V_alloc | apply Kd.V_drewN | apply Kd.V_drew)); exact HO_257002.out⟩, ⟨by (with_reducible repeat (first | apply Kd.V_alloc | apply Kd.V_drewN | apply Kd.V_drew)); exact HO_257003.out⟩, ⟨by (with_reducible repeat (first | refine kN ?_ _ | refine kD ?_ | refine kA ?_ _)); exact BK256.out⟩, ⟨by (with_reducible repeat (first | refine kN ?_ _ | refine kD ?_ | refine kA ?_ _)); exact BK257.out⟩, ⟨bl⟩⟩
           ·rw [if_neg c22] at H
            have c22b0 : decide (x8_2 < 0) = false := decide_eq_false c22
            clear c22
            replace H := Option.bind_eq_some_iff.mp H
            obtain ⟨t262, A260, H⟩ := H
            have E_t262 := aM (show t262 = t261 from Option.some.inj (A260.symm.trans A20.out))
            replace H : ((mapmakerref26_size.f x257001_1 x8_2).bind fun t263 => (if t262 < t263 then (mapmakerref26_Line.l1 k2 l1 a2 x257001_1 x9_2 (wrap64 (x9_2 + 1)) a0_0 x257001_1 x257002_1 l0_3) else (mapmakerref26_Line.l1 k2 l1 a2 x257001_1 x8_2 (wrap64 (x9_2 + 1)) a0_0 x257001_1 x257002_1 l0_3))) = some (r1, r2, r3, r4) := H
            have A26 := aM A260
            clear A260
            replace H := Option.bind_eq_some_iff.mp H
            obtain ⟨t263, A270, H⟩ := H
            replace H : (if t262 < t263 then (mapmakerref26_Line.l1 k2 l1 a2 x257001_1 x9_2 (wrap64 (x9_2 + 1)) a0_0 x257001_1 x257002_1 l0_3) else (mapmakerref26_Line.l1 k2 l1 a2 x257001_1 x8_2 (wrap64 (x9_2 + 1)) a0_0 x257001_1 x257002_1 l0_3)) = some (r1, r2, r3, r4) := H
            have A27 := aM A270
            clear A270
            by_cases c28 : t262 < t263
            ·rw [if_pos c28] at H
             have c28b0 : decide (t262 < t263) = true := decide_eq_true c28
             rw [E_t262.out] at c28b0
             clear c28
             have H' := aM H
             clear H
             obtain ⟨Ao29, co29, eo29⟩ := Kd.V_slice HO_7.out
             subst eo29
             have p259 : 0 ≤ (x9_2 : Int) := of_decide_eq_true (by first | (with_reducible assumption) | assumption)
             have q259 : x9_2 < (x257001_1.length : Int) := of_decide_eq_true (by first | (with_reducible assumption) | assumption)
             obtain ⟨ad259, e259, hx259_0, hx259_1⟩ := at_T40 (Kd.V_reads' HO_7.out).2.2 x9_2 p259 q259
             cases e259
             replace p259 := eq_true p259
             replace q259 := eq_true q259
             go_wp2_with (first | ((with_reducible refine gate_callee (f := 19) rfl ?_); refine goesL_ (some 31) rfl rfl Try.func19 (by kernel_rfl) rfl #[.slice A1 l1.length c1, .agg #[.int .i64 ((rd_T40 x257001_1 x9_2).f0), .int .i64 ((rd_T40 x257001_1 x9_2).f1)]] rfl (by (try simp only [List.map_toArray, List.map_cons, List.map_nil]); first | done | rfl | (simp only [List.length_drop, List.length_take]; rfl)) ?_; (with_reducible refine (mapmakerref26_Has.calls k2 _ _ l1 ((rd_T40 x257001_1 x9_2).f0) ((rd_T40 x257001_1 x9_2).f1) false _ ?side1 ?side2 A16.out).mono ?_); (case side1 => repeat (first | exact (Kd.C_below HR1.out HB.out) | (with_reducible refine cA ?_ _) | (with_reducible refine cN ?_ _) | (with_reducible refine cD ?_))); (case side2 => exact HC1.out); rintro e w30 ⟨rfl, hb⟩; refine ⟨_, rfl, ?_⟩; replace HO_7 := aM (Kd.V_below (by (with_reducible repeat (first | apply Kd.V_alloc | apply Kd.V_drewN | apply Kd.V_drew)); exact HO_7.out) hb); replace HO_257001 := aM (Kd.V_below (by (with_reducible repeat (first | apply Kd.V_alloc | apply Kd.V_drewN | apply Kd.V_drew)); exact HO_257001.out) hb); replace HO_257002 := aM (Kd.V_below (by (with_reducible repeat (first | apply Kd.V_alloc | apply Kd.V_drewN | apply Kd.V_drew)); exact HO_257002.out) hb); replace HO_257003 := aM (Kd.V_below (by (with_reducible repeat (first | apply Kd.V_alloc | apply Kd.V_drewN | apply Kd.V_drew)); exact HO_257003.out) hb); replace BK256 := aM (kB (g := gb256) (o := .cells #[.int .i64 a0_0, .slice (some ad259) x257001_1.length co29, u257002, .slice A0_3 l0_3.length c0_3] 31 (0, 0)) (kl BK256) hb); replace BK257 := aM (kB (g := gb257) (o := .cells #[.int .i64 x258000_1, .slice none 0 0, .slice none 0 0, .slice none 0 0] 31 (0, 0)) (kl BK257) hb); replace HB := aM (bS (bl) hb); (try clear hb); (try clear hb2); (try clear hk); (try clear hi)) | (go_at_call 35; (with_reducible refine (mapmakerref26_size.calls _ _ x257001_1 x9_2 t261 _ ?side1 ?side2 A20.out).mono ?_); (case side1 => repeat (first | exact (Kd.V_reads' HO_7.out).2.2 | (with_reducible refine cA ?_ _) | (with_reducible refine cN ?_ _) | (with_reducible refine cD ?_))); (case side2 => exact (Kd.V_reads' HO_7.out).2.1); rintro e w31 ⟨rfl, hb⟩; replace HO_7 := aM (Kd.V_below (by (with_reducible repeat (first | apply Kd.V_alloc | apply Kd.V_drewN | apply Kd.V_drew)); exact HO_7.out) hb); replace HO_257001 := aM (Kd.V_below (by (with_reducible repeat (first | apply Kd.V_alloc | apply Kd.V_drewN | apply Kd.V_drew)); exact HO_257001.out) hb); replace HO_257002 := aM (Kd.V_below (by (with_reducible repeat (first | apply Kd.V_alloc | apply Kd.V_drewN | apply Kd.V_drew)); exact HO_257002.out) hb); replace HO_257003 := aM (Kd.V_below (by (with_reducible repeat (first | apply Kd.V_alloc | apply Kd.V_drewN | apply Kd.V_drew)); exact HO_257003.out) hb); replace BK256 := aM (kB (g := gb256) (o := .cells #[.int .i64 a0_0, .slice (some ad259) x257001_1.length co29, u257002, .slice A0_3 l0_3.length c0_3] 31 (0, 0)) (kl BK256) hb); replace BK257 := aM (kB (g := gb257) (o := .cells #[.int .i64 x258000_1, .slice none 0 0, .slice none 0 0, .slice none 0 0] 31 (0, 0)) (kl BK257) hb); replace HB := aM (bS (bl) hb); (try clear hb); (try clear hb2); (try clear hk); (try clear hi)) | (go_at_call 35; (with_reducible refine (mapmakerref26_size.calls _ _ x257001_1 x9_2 t262 _ ?side1 ?side2 A26.out).mono ?_); (case side1 => repeat (first | exact (Kd.V_reads' HO_7.out).2.2 | (with_reducible refine cA ?_ _) | (with_reducible refine cN ?_ _) | (with_reducible refine cD ?_))); (case side2 => exact (Kd.V_reads' HO_7.out).2.1); rintro e w32 ⟨rfl, hb⟩; replace HO_7 := aM (Kd.V_below (by (with_reducible repeat (first | apply Kd.V_alloc | apply Kd.V_drewN | apply Kd.V_drew)); exact HO_7.out) hb); replace HO_257001 := aM (Kd.V_below (by (with_reducible repeat (first | apply Kd.V_alloc | apply Kd.V_drewN | apply Kd.V_drew)); exact HO_257001.out) hb); replace HO_257002 := aM (Kd.V_below (by (with_reducible repeat (first | apply Kd.V_alloc | apply Kd.V_drewN | apply Kd.V_drew)); exact HO_257002.out) hb); replace HO_257003 := aM (Kd.V_below (by (with_reducible repeat (first | apply Kd.V_alloc | apply Kd.V_drewN | apply Kd.V_drew)); exact HO_257003.out) hb); replace BK256 := aM (kB (g := gb256) (o := .cells #[.int .i64 a0_0, .slice (some ad259) x257001_1.length co29, u257002, .slice A0_3 l0_3.length c0_3] 31 (0, 0)) (kl BK256) hb); replace BK257 := aM (kB (g := gb257) (o := .cells #[.int .i64 x258000_1, .slice none 0 0, .slice none 0 0, .slice none 0 0] 31 (0, 0)) (kl BK257) hb); replace HB := aM (bS (bl) hb); (try clear hb); (try clear hb2); (try clear hk); (try clear hi)) | (go_at_call 35; (with_reducible refine (mapmakerref26_size.calls _ _ x257001_1 x8_2 t263 _ ?side1 ?side2 A27.out).mono ?_); (case side1 => repeat (first | exact (Kd.V_reads' HO_7.out).2.2 | (with_reducible refine cA ?_ _) | (with_reducible refine cN ?_ _) | (with_reducible refine cD ?_))); (case side2 => exact (Kd.V_reads' HO_7.out).2.1); rintro e w33 ⟨rfl, hb⟩; replace HO_7 := aM (Kd.V_below (by (with_reducible repeat (first | apply Kd.V_alloc | apply Kd.V_drewN | apply Kd.V_drew)); exact HO_7.out) hb); replace HO_257001 := aM (Kd.V_below (by (with_reducible repeat (first | apply Kd.V_alloc | apply Kd.V_drewN | apply Kd.V_drew)); exact HO_257001.out) hb); replace HO_257002 := aM (Kd.V_below (by (with_reducible repeat (first | apply Kd.V_alloc | apply Kd.V_drewN | apply Kd.V_drew)); exact HO_257002.out) hb); replace HO_257003 := aM (Kd.V_below (by (with_reducible repeat (first | apply Kd.V_alloc | apply Kd.V_drewN | apply Kd.V_drew)); exact HO_257003.out) hb); replace BK256 := aM (kB (g := gb256) (o := .cells #[.int .i64 a0_0, .slice (some ad259) x257001_1.length co29, u257002, .slice A0_3 l0_3.length c0_3] 31 (0, 0)) (kl BK256) hb); replace BK257 := aM (kB (g := gb257) (o := .cells #[.int .i64 x258000_1, .slice none 0 0, .slice none 0 0, .slice none 0 0] 31 (0, 0)) (kl BK257) hb); replace HB := aM (bS (bl) hb); (try clear hb); (try clear hb2); (try clear hk); (try clear hi)))
             go_roundg k2
             case measure => have := HK1.out; have := HK2.out; omega
             case rel => exact ⟨(x9_2), (wrap64 (x9_2 + 1)), (by first | rfl | (simp; done) | (simp [*]; done)), (by first | rfl | (simp; done) | (simp [*]; done)), H', ⟨by have := HK1.out; have := HK2.out; omega⟩, ⟨by (with_reducible repeat (first | apply Kd.V_alloc | apply Kd.V_drewN | apply Kd.V_drew)); exact HO_7.out⟩, ⟨by (with_reducible repeat (first | apply Kd.V_alloc | apply Kd.V_drewN | apply Kd.V_drew)); exact HO_257001.out⟩, ⟨by (with_reducible repeat (first | apply Kd.V_alloc | apply Kd.V_drewN | apply Kd.V_drew)); exact HO_257002.out⟩, ⟨by (with_reducible repeat (first | apply Kd.V_alloc | apply Kd.V_drewN | apply Kd.V_drew)); exact HO_257003.out⟩, ⟨by (with_reducible repeat (first | refine kN ?_ _ | refine kD ?_ | refine kA ?_ _)); exact BK256.out⟩, ⟨by (with_reducible repeat (first | refine kN ?_ _ | refine kD ?_ | refine kA ?_ _)); exact BK257.out⟩, ⟨bl⟩⟩
            ·rw [if_neg c28] at H
             have c28b0 : decide (t262 < t263) = false := decide_eq_false c28
             rw [E_t262.out] at c28b0
             clear c28
             have H' := aM H
             clear H
             obtain ⟨Ao34, co34, eo34⟩ := Kd.V_slice HO_7.out
             subst eo34
             have p259 : 0 ≤ (x9_2 : Int) := of_decide_eq_true (by first | (with_reducible assumption) | assumption)
             have q259 : x9_2 < (x257001_1.length : Int) := of_decide_eq_true (by first | (with_reducible assumption) | assumption)
             obtain ⟨ad259, e259, hx259_0, hx259_1⟩ := at_T40 (Kd.V_reads' HO_7.out).2.2 x9_2 p259 q259
             cases e259
             replace p259 := eq_true p259
             replace q259 := eq_true q259
             go_wp2_with (first | ((with_reducible refine gate_callee (f := 19) rfl ?_); refine goesL_ (some 31) rfl rfl Try.func19 (by kernel_rfl) rfl #[.slice A1 l1.length c1, .agg #[.int .i64 ((rd_T40 x257001_1 x9_2).f0), .int .i64 ((rd_T40 x257001_1 x9_2).f1)]] rfl (by (try simp only [List.map_toArray, List.map_cons, List.map_nil]); first | done | rfl | (simp only [List.length_drop, List.length_take]; rfl)) ?_; (with_reducible refine (mapmakerref26_Has.calls k2 _ _ l1 ((rd_T40 x257001_1 x9_2).f0) ((rd_T40 x257001_1 x9_2).f1) false _ ?side1 ?side2 A16.out).mono ?_); (case side1 => repeat (first | exact (Kd.C_below HR1.out HB.out) | (with_reducible refine cA ?_ _) | (with_reducible refine cN ?_ _) | (with_reducible refine cD ?_))); (case side2 => exact HC1.out); rintro e w35 ⟨rfl, hb⟩; refine ⟨_, rfl, ?_⟩; replace HO_7 := aM (Kd.V_below (by (with_reducible repeat (first | apply Kd.V_alloc | apply Kd.V_drewN | apply Kd.V_drew)); exact HO_7.out) hb); replace HO_257001 := aM (Kd.V_below (by (with_reducible repeat (first | apply Kd.V_alloc | apply Kd.V_drewN | apply Kd.V_drew)); exact HO_257001.out) hb); replace HO_257002 := aM (Kd.V_below (by (with_reducible repeat (first | apply Kd.V_alloc | apply Kd.V_drewN | apply Kd.V_drew)); exact HO_257002.out) hb); replace HO_257003 := aM (Kd.V_below (by (with_reducible repeat (first | apply Kd.V_alloc | apply Kd.V_drewN | apply Kd.V_drew)); exact HO_257003.out) hb); replace BK256 := aM (kB (g := gb256) (o := .cells #[.int .i64 a0_0, .slice (some ad259) x257001_1.length co34, u257002, .slice A0_3 l0_3.length c0_3] 31 (0, 0)) (kl BK256) hb); replace BK257 := aM (kB (g := gb257) (o := .cells #[.int .i64 x258000_1, .slice none 0 0, .slice none 0 0, .slice none 0 0] 31 (0, 0)) (kl BK257) hb); replace HB := aM (bS (bl) hb); (try clear hb); (try clear hb2); (try clear hk); (try clear hi)) | (go_at_call 35; (with_reducible refine (mapmakerref26_size.calls _ _ x257001_1 x9_2 t261 _ ?side1 ?side2 A20.out).mono ?_); (case side1 => repeat (first | exact (Kd.V_reads' HO_7.out).2.2 | (with_reducible refine cA ?_ _) | (with_reducible refine cN ?_ _) | (with_reducible refine cD ?_))); (case side2 => exact (Kd.V_reads' HO_7.out).2.1); rintro e w36 ⟨rfl, hb⟩; replace HO_7 := aM (Kd.V_below (by (with_reducible repeat (first | apply Kd.V_alloc | apply Kd.V_drewN | apply Kd.V_drew)); exact HO_7.out) hb); replace HO_257001 := aM (Kd.V_below (by (with_reducible repeat (first | apply Kd.V_alloc | apply Kd.V_drewN | apply Kd.V_drew)); exact HO_257001.out) hb); replace HO_257002 := aM (Kd.V_below (by (with_reducible repeat (first | apply Kd.V_alloc | apply Kd.V_drewN | apply Kd.V_drew)); exact HO_257002.out) hb); replace HO_257003 := aM (Kd.V_below (by (with_reducible repeat (first | apply Kd.V_alloc | apply Kd.V_drewN | apply Kd.V_drew)); exact HO_257003.out) hb); replace BK256 := aM (kB (g := gb256) (o := .cells #[.int .i64 a0_0, .slice (some ad259) x257001_1.length co34, u257002, .slice A0_3 l0_3.length c0_3] 31 (0, 0)) (kl BK256) hb); replace BK257 := aM (kB (g := gb257) (o := .cells #[.int .i64 x258000_1, .slice none 0 0, .slice none 0 0, .slice none 0 0] 31 (0, 0)) (kl BK257) hb); replace HB := aM (bS (bl) hb); (try clear hb); (try clear hb2); (try clear hk); (try clear hi)) | (go_at_call 35; (with_reducible refine (mapmakerref26_size.calls _ _ x257001_1 x9_2 t262 _ ?side1 ?side2 A26.out).mono ?_); (case side1 => repeat (first | exact (Kd.V_reads' HO_7.out).2.2 | (with_reducible refine cA ?_ _) | (with_reducible refine cN ?_ _) | (with_reducible refine cD ?_))); (case side2 => exact (Kd.V_reads' HO_7.out).2.1); rintro e w37 ⟨rfl, hb⟩; replace HO_7 := aM (Kd.V_below (by (with_reducible repeat (first | apply Kd.V_alloc | apply Kd.V_drewN | apply Kd.V_drew)); exact HO_7.out) hb); replace HO_257001 := aM (Kd.V_below (by (with_reducible repeat (first | apply Kd.V_alloc | apply Kd.V_drewN | apply Kd.V_drew)); exact HO_257001.out) hb); replace HO_257002 := aM (Kd.V_below (by (with_reducible repeat (first | apply Kd.V_alloc | apply Kd.V_drewN | apply Kd.V_drew)); exact HO_257002.out) hb); replace HO_257003 := aM (Kd.V_below (by (with_reducible repeat (first | apply Kd.V_alloc | apply Kd.V_drewN | apply Kd.V_drew)); exact HO_257003.out) hb); replace BK256 := aM (kB (g := gb256) (o := .cells #[.int .i64 a0_0, .slice (some ad259) x257001_1.length co34, u257002, .slice A0_3 l0_3.length c0_3] 31 (0, 0)) (kl BK256) hb); replace BK257 := aM (kB (g := gb257) (o := .cells #[.int .i64 x258000_1, .slice none 0 0, .slice none 0 0, .slice none 0 0] 31 (0, 0)) (kl BK257) hb); replace HB := aM (bS (bl) hb); (try clear hb); (try clear hb2); (try clear hk); (try clear hi)) | (go_at_call 35; (with_reducible refine (mapmakerref26_size.calls _ _ x257001_1 x8_2 t263 _ ?side1 ?side2 A27.out).mono ?_); (case side1 => repeat (first | exact (Kd.V_reads' HO_7.out).2.2 | (with_reducible refine cA ?_ _) | (with_reducible refine cN ?_ _) | (with_reducible refine cD ?_))); (case side2 => exact (Kd.V_reads' HO_7.out).2.1); rintro e w38 ⟨rfl, hb⟩; replace HO_7 := aM (Kd.V_below (by (with_reducible repeat (first | apply Kd.V_alloc | apply Kd.V_drewN | apply Kd.V_drew)); exact HO_7.out) hb); replace HO_257001 := aM (Kd.V_below (by (with_reducible repeat (first | apply Kd.V_alloc | apply Kd.V_drewN | apply Kd.V_drew)); exact HO_257001.out) hb); replace HO_257002 := aM (Kd.V_below (by (with_reducible repeat (first | apply Kd.V_alloc | apply Kd.V_drewN | apply Kd.V_drew)); exact HO_257002.out) hb); replace HO_257003 := aM (Kd.V_below (by (with_reducible repeat (first | apply Kd.V_alloc | apply Kd.V_drewN | apply Kd.V_drew)); exact HO_257003.out) hb); replace BK256 := aM (kB (g := gb256) (o := .cells #[.int .i64 a0_0, .slice (some ad259) x257001_1.length co34, u257002, .slice A0_3 l0_3.length c0_3] 31 (0, 0)) (kl BK256) hb); replace BK257 := aM (kB (g := gb257) (o := .cells #[.int .i64 x258000_1, .slice none 0 0, .slice none 0 0, .slice none 0 0] 31 (0, 0)) (kl BK257) hb); replace HB := aM (bS (bl) hb); (try clear hb); (try clear hb2); (try clear hk); (try clear hi)))
             go_roundg k2
             case measure => have := HK1.out; have := HK2.out; omega
             case rel => exact ⟨(x8_2), (wrap64 (x9_2 + 1)), (by first | rfl | (simp; done) | (simp [*]; done)), (by first | rfl | (simp; done) | (simp [*]; done)), H', ⟨by have := HK1.out; have := HK2.out; omega⟩, ⟨by (with_reducible repeat (first | apply Kd.V_alloc | apply Kd.V_drewN | apply Kd.V_drew)); exact HO_7.out⟩, ⟨by (with_reducible repeat (first | apply Kd.V_alloc | apply Kd.V_drewN | apply Kd.V_drew)); exact HO_257001.out⟩, ⟨by (with_reducible repeat (first | apply Kd.V_alloc | apply Kd.V_drewN | apply Kd.V_drew)); exact HO_257002.out⟩, ⟨by (with_reducible repeat (first | apply Kd.V_alloc | apply Kd.V_drewN | apply Kd.V_drew)); exact HO_257003.out⟩, ⟨by (with_reducible repeat (first | refine kN ?_ _ | refine kD ?_ | refine kA ?_ _)); exact BK256.out⟩, ⟨by (with_reducible repeat (first | refine kN ?_ _ | refine kD ?_ | refine kA ?_ _)); exact BK257.out⟩, ⟨bl⟩⟩
          ·rw [if_neg c21] at H
           have c21b0 : decide (t261 ≤ a2) = false := decide_eq_false c21
           clear c21
           have H' := aM H
           clear H
           obtain ⟨Ao39, co39, eo39⟩ := Kd.V_slice HO_7.out
           subst eo39
           have p259 : 0 ≤ (x9_2 : Int) := of_decide_eq_true (by first | (with_reducible assumption) | assumption)
           have q259 : x9_2 < (x257001_1.length : Int) := of_decide_eq_true (by first | (with_reducible assumption) | assumption)
           obtain ⟨ad259, e259, hx259_0, hx259_1⟩ := at_T40 (Kd.V_reads' HO_7.out).2.2 x9_2 p259 q259
           cases e259
           replace p259 := eq_true p259
           replace q259 := eq_true q259
           go_wp2_with (first | ((with_reducible refine gate_callee (f := 19) rfl ?_); refine goesL_ (some 31) rfl rfl Try.func19 (by kernel_rfl) rfl #[.slice A1 l1.length c1, .agg #[.int .i64 ((rd_T40 x257001_1 x9_2).f0), .int .i64 ((rd_T40 x257001_1 x9_2).f1)]] rfl (by (try simp only [List.map_toArray, List.map_cons, List.map_nil]); first | done | rfl | (simp only [List.length_drop, List.length_take]; rfl)) ?_; (with_reducible refine (mapmakerref26_Has.calls k2 _ _ l1 ((rd_T40 x257001_1 x9_2).f0) ((rd_T40 x257001_1 x9_2).f1) false _ ?side1 ?side2 A16.out).mono ?_); (case side1 => repeat (first | exact (Kd.C_below HR1.out HB.out) | (with_reducible refine cA ?_ _) | (with_reducible refine cN ?_ _) | (with_reducible refine cD ?_))); (case side2 => exact HC1.out); rintro e w40 ⟨rfl, hb⟩; refine ⟨_, rfl, ?_⟩; replace HO_7 := aM (Kd.V_below (by (with_reducible repeat (first | apply Kd.V_alloc | apply Kd.V_drewN | apply Kd.V_drew)); exact HO_7.out) hb); replace HO_257001 := aM (Kd.V_below (by (with_reducible repeat (first | apply Kd.V_alloc | apply Kd.V_drewN | apply Kd.V_drew)); exact HO_257001.out) hb); replace HO_257002 := aM (Kd.V_below (by (with_reducible repeat (first | apply Kd.V_alloc | apply Kd.V_drewN | apply Kd.V_drew)); exact HO_257002.out) hb); replace HO_257003 := aM (Kd.V_below (by (with_reducible repeat (first | apply Kd.V_alloc | apply Kd.V_drewN | apply Kd.V_drew)); exact HO_257003.out) hb); replace BK256 := aM (kB (g := gb256) (o := .cells #[.int .i64 a0_0, .slice (some ad259) x257001_1.length co39, u257002, .slice A0_3 l0_3.length c0_3] 31 (0, 0)) (kl BK256) hb); replace BK257 := aM (kB (g := gb257) (o := .cells #[.int .i64 x258000_1, .slice none 0 0, .slice none 0 0, .slice none 0 0] 31 (0, 0)) (kl BK257) hb); replace HB := aM (bS (bl) hb); (try clear hb); (try clear hb2); (try clear hk); (try clear hi)) | (go_at_call 35; (with_reducible refine (mapmakerref26_size.calls _ _ x257001_1 x9_2 t261 _ ?side1 ?side2 A20.out).mono ?_); (case side1 => repeat (first | exact (Kd.V_reads' HO_7.out).2.2 | (with_reducible refine cA ?_ _) | (with_reducible refine cN ?_ _) | (with_reducible refine cD ?_))); (case side2 => exact (Kd.V_reads' HO_7.out).2.1); rintro e w41 ⟨rfl, hb⟩; replace HO_7 := aM (Kd.V_below (by (with_reducible repeat (first | apply Kd.V_alloc | apply Kd.V_drewN | apply Kd.V_drew)); exact HO_7.out) hb); replace HO_257001 := aM (Kd.V_below (by (with_reducible repeat (first | apply Kd.V_alloc | apply Kd.V_drewN | apply Kd.V_drew)); exact HO_257001.out) hb); replace HO_257002 := aM (Kd.V_below (by (with_reducible repeat (first | apply Kd.V_alloc | apply Kd.V_drewN | apply Kd.V_drew)); exact HO_257002.out) hb); replace HO_257003 := aM (Kd.V_below (by (with_reducible repeat (first | apply Kd.V_alloc | apply Kd.V_drewN | apply Kd.V_drew)); exact HO_257003.out) hb); replace BK256 := aM (kB (g := gb256) (o := .cells #[.int .i64 a0_0, .slice (some ad259) x257001_1.length co39, u257002, .slice A0_3 l0_3.length c0_3] 31 (0, 0)) (kl BK256) hb); replace BK257 := aM (kB (g := gb257) (o := .cells #[.int .i64 x258000_1, .slice none 0 0, .slice none 0 0, .slice none 0 0] 31 (0, 0)) (kl BK257) hb); replace HB := aM (bS (bl) hb); (try clear hb); (try clear hb2); (try clear hk); (try clear hi)))
           go_roundg k2
           case measure => have := HK1.out; have := HK2.out; omega
           case rel => exact ⟨(x8_2), (wrap64 (x9_2 + 1)), (by first | rfl | (simp; done) | (simp [*]; done)), (by first | rfl | (simp; done) | (simp [*]; done)), H', ⟨by have := HK1.out; have := HK2.out; omega⟩, ⟨by (with_reducible repeat (first | apply Kd.V_alloc | apply Kd.V_drewN | apply Kd.V_drew)); exact HO_7.out⟩, ⟨by (with_reducible repeat (first | apply Kd.V_alloc | apply Kd.V_drewN | apply Kd.V_drew)); exact HO_257001.out⟩, ⟨by (with_reducible repeat (first | apply Kd.V_alloc | apply Kd.V_drewN | apply Kd.V_drew)); exact HO_257002.out⟩, ⟨by (with_reducible repeat (first | apply Kd.V_alloc | apply Kd.V_drewN | apply Kd.V_drew)); exact HO_257003.out⟩, ⟨by (with_reducible repeat (first | refine kN ?_ _ | refine kD ?_ | refine kA ?_ _)); exact BK256.out⟩, ⟨by (with_reducible repeat (first | refine kN ?_ _ | refine kD ?_ | refine kA ?_ _)); exact BK257.out⟩, ⟨bl⟩⟩
        ·rw [if_neg c15] at H
         exact absurd H (by simp)
       ·rw [if_neg c14] at H
        exact absurd H (by simp)
      ·rw [if_neg c13] at H
       have c13b0 : decide ((wrap64 (x9_2 + 1)) < (x257001_1.length : Int)) = false := decide_eq_false c13
       clear c13
       by_cases c42 : x8_2 < 0
       ·rw [if_pos c42] at H
        have c42b0 : decide (x8_2 < 0) = true := decide_eq_true c42
        clear c42
        simp only [Option.some.injEq, Prod.mk.injEq] at H
        obtain ⟨rfl, rfl, rfl, rfl⟩ := H
        obtain ⟨Ao43, co43, eo43⟩ := Kd.V_slice HO_7.out
        subst eo43
        have hnb44 := NB256_257.out
        have hnc44 := NB257_256.out
        have hcz45_0 : wr.cell? ⟨gb256, 0, none⟩ = some (.int .i64 a0_0) := (kC BK256.out 0).trans rfl
        have hcz45_1 : wr.cell? ⟨gb256, 1, none⟩ = some (.slice Ao43 x257001_1.length co43) := (kC BK256.out 1).trans rfl
        have hcz45_2 : wr.cell? ⟨gb256, 2, none⟩ = some (u257002) := (kC BK256.out 2).trans rfl
        have hcz45_3 : wr.cell? ⟨gb256, 3, none⟩ = some (.slice A0_3 l0_3.length c0_3) := (kC BK256.out 3).trans rfl
        have hfz45_0 := kF BK256.out 0
        have hfz45_1 := kF BK256.out 1
        have hfz45_2 := kF BK256.out 2
        have hfz45_3 := kF BK256.out 3
        have hcz46_0 : wr.cell? ⟨gb257, 0, none⟩ = some (.int .i64 x258000_1) := (kC BK257.out 0).trans rfl
        have hcz46_1 : wr.cell? ⟨gb257, 1, none⟩ = some (.slice none 0 0) := (kC BK257.out 1).trans rfl
        have hcz46_2 : wr.cell? ⟨gb257, 2, none⟩ = some (.slice none 0 0) := (kC BK257.out 2).trans rfl
        have hcz46_3 : wr.cell? ⟨gb257, 3, none⟩ = some (.slice none 0 0) := (kC BK257.out 3).trans rfl
        have hfz46_0 := kF BK257.out 0
        have hfz46_1 := kF BK257.out 1
        have hfz46_2 := kF BK257.out 2
        have hfz46_3 := kF BK257.out 3
        obtain ⟨Ao47, co47, eo47⟩ := Kd.V_slice HO_257002.out
        subst eo47
        go_wp2
        refine bodyPost_ret (results_cell_row rfl _ _ gb257 31 #[.int .i64 a0_0, .slice Ao43 x257001_1.length co43, .slice Ao47 x257002_1.length co47, .slice A0_3 l0_3.length c0_3] (0, 0) _ rfl (by (with_reducible repeat (first | refine kN ?_ _ | refine kD ?_ | refine kA ?_ _)); refine kP (cs := #[.int .i64 a0_0, .slice Ao43 x257001_1.length co43, .slice Ao47 x257002_1.length co47, .slice none 0 0]) ?_ 3 _ rfl; (with_reducible repeat (first | refine kN ?_ _ | refine kD ?_ | refine kA ?_ _)); refine kP (cs := #[.int .i64 a0_0, .slice Ao43 x257001_1.length co43, .slice none 0 0, .slice none 0 0]) ?_ 2 _ rfl; (with_reducible repeat (first | refine kN ?_ _ | refine kD ?_ | refine kA ?_ _)); refine kP (cs := #[.int .i64 a0_0, .slice none 0 0, .slice none 0 0, .slice none 0 0]) ?_ 1 _ rfl; (with_reducible repeat (first | refine kN ?_ _ | refine kD ?_ | refine kA ?_ _)); refine kP (cs := #[.int .i64 x258000_1, .slice none 0 0, .slice none 0 0, .slice none 0 0]) ?_ 0 _ rfl; (with_reducible repeat (first | refine kN ?_ _ | refine kD ?_ | refine kA ?_ _)); exact BK257.out) Try.underlying31 rfl (by kernel_rfl)) rfl ?_
        exact ⟨_, _, _, by first | rfl | (simp [errW_none, errW_some] <;> rfl) | (simp [*, errW_none, errW_some] <;> rfl), by (with_reducible repeat (first | apply Kd.V_alloc | apply Kd.V_drewN | apply Kd.V_drew)); exact Kd.V_mono (Kd.V_far (p := ⟨gb257, 3, none⟩) (Kd.V_far (p := ⟨gb257, 2, none⟩) (Kd.V_far (p := ⟨gb257, 1, none⟩) (Kd.V_far (p := ⟨gb257, 0, none⟩) (Kd.V_mono HO_257001.out (fun k_ hk => (⟨hk, hk.2.2⟩ : _ ∧ k_ ≠ gb257))) (fun _ hk => hk.2) (.int .i64 a0_0)) (fun _ hk => hk.2) (.slice Ao43 x257001_1.length co43)) (fun _ hk => hk.2) (.slice Ao47 x257002_1.length co47)) (fun _ hk => hk.2) (.slice A0_3 l0_3.length c0_3)) (fun _ hk => hk.1.1), by (with_reducible repeat (first | apply Kd.V_alloc | apply Kd.V_drewN | apply Kd.V_drew)); exact Kd.V_mono (Kd.V_far (p := ⟨gb257, 3, none⟩) (Kd.V_far (p := ⟨gb257, 2, none⟩) (Kd.V_far (p := ⟨gb257, 1, none⟩) (Kd.V_far (p := ⟨gb257, 0, none⟩) (Kd.V_mono HO_257002.out (fun k_ hk => (⟨hk, hk.2.2⟩ : _ ∧ k_ ≠ gb257))) (fun _ hk => hk.2) (.int .i64 a0_0)) (fun _ hk => hk.2) (.slice Ao43 x257001_1.length co43)) (fun _ hk => hk.2) (.slice Ao47 x257002_1.length co47)) (fun _ hk => hk.2) (.slice A0_3 l0_3.length c0_3)) (fun _ hk => hk.1.1), by (with_reducible repeat (first | apply Kd.V_alloc | apply Kd.V_drewN | apply Kd.V_drew)); exact Kd.V_mono (Kd.V_far (p := ⟨gb257, 3, none⟩) (Kd.V_far (p := ⟨gb257, 2, none⟩) (Kd.V_far (p := ⟨gb257, 1, none⟩) (Kd.V_far (p := ⟨gb257, 0, none⟩) (Kd.V_mono HO_257003.out (fun k_ hk => (⟨hk, hk.2.2⟩ : _ ∧ k_ ≠ gb257))) (fun _ hk => hk.2) (.int .i64 a0_0)) (fun _ hk => hk.2) (.slice Ao43 x257001_1.length co43)) (fun _ hk => hk.2) (.slice Ao47 x257002_1.length co47)) (fun _ hk => hk.2) (.slice A0_3 l0_3.length c0_3)) (fun _ hk => hk.1.1), bl⟩
       ·rw [if_neg c42] at H
        have c42b0 : decide (x8_2 < 0) = false := decide_eq_false c42
        clear c42
        have H' := aM H
        clear H
        obtain ⟨Ao48, co48, eo48⟩ := Kd.V_slice HO_7.out
        subst eo48
        go_wp2
        go_loopg [10, 11, 12] k2 (fun kq v10 v11 v12 w' => ∃ (x10_3 : List (S40)) (x11_3 : List Int) (x12_3 : Int), v12 = .int .i64 x12_3 ∧ Aside0 (mapmakerref26_Line.l2 kq l1 a2 x257001_1 x8_2 x10_3 x11_3 x12_3 a0_0 x257001_1 x257002_1 l0_3 = some (r1, r2, r3, r4)) ∧ Aside0 (kq ≤ k2) ∧ Aside0 (Kd.V k40 40 w' w.heap.size (fun k_ => ((P0_1_ k_ ∨ P0_2_ k_ ∨ P0_3_ k_) ∨ w.heap.size ≤ k_) ∧ some k_ ≠ (v10 : Value).ownBlock ∧ some k_ ≠ (v11 : Value).ownBlock ∧ k_ ≠ gb256 ∧ k_ ≠ gb257) (.slice Ao48 x257001_1.length co48) x257001_1) ∧ Aside0 (Kd.R k40 40 w' w.heap.size (fun k_ => (w.heap.size ≤ k_)) v10 x10_3) ∧ Aside0 (Kd.R (Kd.int .i64) 3 w' w.heap.size (fun k_ => (w.heap.size ≤ k_)) v11 x11_3) ∧ Aside0 (Kd.V k40 40 w' w.heap.size (fun k_ => ((P0_1_ k_ ∨ P0_2_ k_ ∨ P0_3_ k_) ∨ w.heap.size ≤ k_) ∧ some k_ ≠ (v10 : Value).ownBlock ∧ some k_ ≠ (v11 : Value).ownBlock ∧ k_ ≠ gb256 ∧ k_ ≠ gb257) (.slice Ao48 x257001_1.length co48) x257001_1) ∧ Aside0 (Kd.V (Kd.int .i64) 3 w' w.heap.size (fun k_ => ((P0_1_ k_ ∨ P0_2_ k_ ∨ P0_3_ k_) ∨ w.heap.size ≤ k_) ∧ some k_ ≠ (v10 : Value).ownBlock ∧ some k_ ≠ (v11 : Value).ownBlock ∧ k_ ≠ gb256 ∧ k_ ≠ gb257) u257002 x257002_1) ∧ Aside0 (Kd.V k80 80 w' w.heap.size (fun k_ => ((P0_1_ k_ ∨ P0_2_ k_ ∨ P0_3_ k_) ∨ w.heap.size ≤ k_) ∧ some k_ ≠ (v10 : Value).ownBlock ∧ some k_ ≠ (v11 : Value).ownBlock ∧ k_ ≠ gb256 ∧ k_ ≠ gb257) (.slice A0_3 l0_3.length c0_3) l0_3) ∧ Aside0 (w'.heap[gb256]? = some (.cells #[.int .i64 a0_0, (.slice Ao48 x257001_1.length co48), u257002, (.slice A0_3 l0_3.length c0_3)] 31 (0, 0))) ∧ Aside0 (w'.heap[gb257]? = some (.cells #[.int .i64 x258000_1, (.slice none 0 0), (.slice none 0 0), (.slice none 0 0)] 31 (0, 0))) ∧ Aside0 (Below w.heap.size w w'))
        case atStart => exact ⟨(([] : List (S40))), (([] : List Int)), (0), (by first | rfl | (simp; done) | (simp [*]; done)), H', ⟨Nat.le_refl _⟩, ⟨by (with_reducible repeat (first | apply Kd.V_alloc | apply Kd.V_drewN | apply Kd.V_drew)); exact Kd.V_mono HO_7.out (fun _ hk => ⟨hk.1, ⟨(by simp [Value.ownBlock]), ⟨(by simp [Value.ownBlock]), ⟨hk.2.1, hk.2.2⟩⟩⟩⟩)⟩, ⟨by first | exact Kd.R_nil _ _ _ _ _ | exact Kd.N_nil _ _ _ _ _ | exact Kd.V_nil _ _ _ _ _ | exact Kd.Q_nil _ _ _ _ _ | exact Kd.S_nil _ _ _ _ _⟩, ⟨by first | exact Kd.R_nil _ _ _ _ _ | exact Kd.N_nil _ _ _ _ _ | exact Kd.V_nil _ _ _ _ _ | exact Kd.Q_nil _ _ _ _ _ | exact Kd.S_nil _ _ _ _ _⟩, ⟨by (with_reducible repeat (first | apply Kd.V_alloc | apply Kd.V_drewN | apply Kd.V_drew)); exact Kd.V_mono HO_257001.out (fun _ hk => ⟨hk.1, ⟨(by simp [Value.ownBlock]), ⟨(by simp [Value.ownBlock]), ⟨hk.2.1, hk.2.2⟩⟩⟩⟩)⟩, ⟨by (with_reducible repeat (first | apply Kd.V_alloc | apply Kd.V_drewN | apply Kd.V_drew)); exact Kd.V_mono HO_257002.out (fun _ hk => ⟨hk.1, ⟨(by simp [Value.ownBlock]), ⟨(by simp [Value.ownBlock]), ⟨hk.2.1, hk.2.2⟩⟩⟩⟩)⟩, ⟨by (with_reducible repeat (first | apply Kd.V_alloc | apply Kd.V_drewN | apply Kd.V_drew)); exact Kd.V_mono HO_257003.out (fun _ hk => ⟨hk.1, ⟨(by simp [Value.ownBlock]), ⟨(by simp [Value.ownBlock]), ⟨hk.2.1, hk.2.2⟩⟩⟩⟩)⟩, ⟨by (with_reducible repeat (first | refine kN ?_ _ | refine kD ?_ | refine kA ?_ _)); exact BK256.out⟩, ⟨by (with_reducible repeat (first | refine kN ?_ _ | refine kD ?_ | refine kA ?_ _)); exact BK257.out⟩, ⟨bl⟩⟩
        case round =>
         clear H'
         try clear c1
         try clear c2
         try clear p2
         try clear q2
         try clear hx2
         try clear c4
         try clear c5
         try clear p6
         try clear c8
         try clear c11
         try clear c13
         try clear c13b0
         try clear c14
         try clear c14b0
         try clear c15
         try clear c15b0
         try clear c17
         try clear c18
         try clear c19
         try clear c21
         try clear c21b0
         try clear c22
         try clear c22b0
         try clear p25
         try clear q25
         try clear hx25
         try clear c28
         try clear c28b0
         try clear c42
         try clear c42b0
         try clear c44
         try clear hcz12_0
         try clear hcz12_1
         try clear hcz12_2
         try clear hcz12_3
         try clear hcz45_0
         try clear hcz45_1
         try clear hcz45_2
         try clear hcz45_3
         try clear hcz46_0
         try clear hcz46_1
         try clear hcz46_2
         try clear hcz46_3
         try clear hcz9_0
         try clear hcz9_1
         try clear hcz9_2
         try clear hcz9_3
         try clear hfz12_0
         try clear hfz12_1
         try clear hfz12_2
         try clear hfz12_3
         try clear hfz45_0
         try clear hfz45_1
         try clear hfz45_2
         try clear hfz45_3
         try clear hfz46_0
         try clear hfz46_1
         try clear hfz46_2
         try clear hfz46_3
         try clear hfz9_0
         try clear hfz9_1
         try clear hfz9_2
         try clear hfz9_3
         try clear hx259_0
         try clear hx259_1
         try clear p2
         try clear p259
         try clear q259
         obtain ⟨x10_3, x11_3, x12_3, rfl, HA, HK3, HO_7, HO_10, HO_11, HO_257001, HO_257002, HO_257003, BK256, BK257, HB⟩ := hrel
         cases gk with
         | zero => exact absurd HA.out (by simp [mapmakerref26_Line.l2])
         | succ k3 =>
          have H := HA.out
          clear HA
          simp only [mapmakerref26_Line.l2] at H
          by_cases c49 : x12_3 < (x257001_1.length : Int)
          ·rw [if_pos c49] at H
           have c49b0 : decide (x12_3 < (x257001_1.length : Int)) = true := decide_eq_true c49
           clear c49
           by_cases c50 : x12_3 = x8_2
           ·rw [if_pos c50] at H
            have c50b0 : (x12_3 == x8_2) = true := beq_iff_eq.mpr c50
            have c50b1 : (x12_3 != x8_2) = false := bne_eq_false_iff_eq.mpr c50
            clear c50
            have H' := aM H
            clear H
            go_wp2
            go_roundg k3
            case measure => have := HK1.out; have := HK2.out; have := HK3.out; omega
            case rel => exact ⟨(x10_3), (x11_3), (wrap64 (x12_3 + 1)), (by first | rfl | (simp; done) | (simp [*]; done)), H', ⟨by have := HK1.out; have := HK2.out; have := HK3.out; omega⟩, ⟨by (with_reducible repeat (first | apply Kd.V_alloc | apply Kd.V_drewN | apply Kd.V_drew)); exact HO_7.out⟩, ⟨by (with_reducible repeat (first | apply rA | apply rN | apply rD)); exact HO_10.out⟩, ⟨by (with_reducible repeat (first | apply rA | apply rN | apply rD)); exact HO_11.out⟩, ⟨by (with_reducible repeat (first | apply Kd.V_alloc | apply Kd.V_drewN | apply Kd.V_drew)); exact HO_257001.out⟩, ⟨by (with_reducible repeat (first | apply Kd.V_alloc | apply Kd.V_drewN | apply Kd.V_drew)); exact HO_257002.out⟩, ⟨by (with_reducible repeat (first | apply Kd.V_alloc | apply Kd.V_drewN | apply Kd.V_drew)); exact HO_257003.out⟩, ⟨by (with_reducible repeat (first | refine kN ?_ _ | refine kD ?_ | refine kA ?_ _)); exact BK256.out⟩, ⟨by (with_reducible repeat (first | refine kN ?_ _ | refine kD ?_ | refine kA ?_ _)); exact BK257.out⟩, ⟨bl⟩⟩
           ·rw [if_neg c50] at H
            have c50b0 : (x12_3 == x8_2) = false := beq_eq_false_iff_ne.mpr c50
            have c50b1 : (x12_3 != x8_2) = true := bne_iff_ne.mpr c50
            by_cases c51 : 0 ≤ x12_3
            ·rw [if_pos c51] at H
             have c51b0 : decide (0 ≤ x12_3) = true := decide_eq_true c51
             clear c51
             by_cases c52 : x10_3.length < 8796093022208
             ·rw [if_pos c52] at H
              have LMc52 := aM c52
              clear c52
              obtain ⟨y265, hy265⟩ : ∃ y_ : List (S40), y_ = (x10_3 ++ [(⟨(rd_T40 x257001_1 x12_3).f0, (rd_T40 x257001_1 x12_3).f1⟩ : S40)]) := ⟨_, rfl⟩
              replace H : (if x12_3 < (x257002_1.length : Int) then (if x11_3.length < 17592186044416 then (mapmakerref26_Line.l2 k3 l1 a2 x257001_1 x8_2 y265 (x11_3 ++ [rd x257002_1 x12_3]) (wrap64 (x12_3 + 1)) a0_0 x257001_1 x257002_1 l0_3) else (none)) else (none)) = some (r1, r2, r3, r4) := by first | (rw [hy265]; with_reducible exact H) | (have H2_ := (Option.bind_some _ _).symm.trans H; rw [hy265]; with_reducible exact H2_) | (have H2_ := (Option.bind_some _ _).symm.trans H; with_reducible exact H2_) | with_reducible exact H | (rw [hy265]; exact H) | exact H
              have Ny265 := aM hy265
              clear hy265
              by_cases c53 : x12_3 < (x257002_1.length : Int)
              ·rw [if_pos c53] at H
               have c53b0 : decide (x12_3 < (x257002_1.length : Int)) = true := decide_eq_true c53
               clear c53
               by_cases c54 : x11_3.length < 17592186044416
               ·rw [if_pos c54] at H
                have LMc54 := aM c54
                clear c54
                obtain ⟨y269, hy269⟩ : ∃ y_ : List Int, y_ = (x11_3 ++ [rd x257002_1 x12_3]) := ⟨_, rfl⟩
                replace H : (mapmakerref26_Line.l2 k3 l1 a2 x257001_1 x8_2 y265 y269 (wrap64 (x12_3 + 1)) a0_0 x257001_1 x257002_1 l0_3) = some (r1, r2, r3, r4) := by first | (rw [hy269]; with_reducible exact H) | (have H2_ := (Option.bind_some _ _).symm.trans H; rw [hy269]; with_reducible exact H2_) | (have H2_ := (Option.bind_some _ _).symm.trans H; with_reducible exact H2_) | with_reducible exact H | (rw [hy269]; exact H) | exact H
                have Ny269 := aM hy269
                clear hy269
                have H' := aM H
                clear H
                have p264 : 0 ≤ (x12_3 : Int) := of_decide_eq_true (by first | (with_reducible assumption) | assumption)
                have q264 : x12_3 < (x257001_1.length : Int) := of_decide_eq_true (by first | (with_reducible assumption) | assumption)
                obtain ⟨ad264, e264, hx264_0, hx264_1⟩ := at_T40 (Kd.V_reads' HO_7.out).2.2 x12_3 p264 q264
                cases e264
                replace p264 := eq_true p264
                replace q264 := eq_true q264
                go_wp2_with (first | ((with_reducible refine gate_builtin (b := .append) (xs := #[.tmp 66, .tmp 71]) rfl ?_); at_builtin; refine Kd.R_append k40 (w0 := w) w.heap.size rfl (.tmp 66) (.tmp 71) 26 40 (.agg #[(.int .i64 0), (.int .i64 0)]) 16 rfl Try.underlying26 info40 rfl (by decide) (by omega) u10 x10_3 (⟨(rd_T40 x257001_1 x12_3).f0, (rd_T40 x257001_1 x12_3).f1⟩ : S40) [.int .i64 ((rd_T40 x257001_1 x12_3).f0), .int .i64 ((rd_T40 x257001_1 x12_3).f1)] (fun k_ => (w.heap.size ≤ k_)) (fun _ => False) rfl rfl ?aP (fun _ hk => hk.elim) ?aF ?aO ?aB ?aS ?aL ?_; (case aP => exact k40_mkM _ _ _ (⟨(rd_T40 x257001_1 x12_3).f0, (rd_T40 x257001_1 x12_3).f1⟩ : S40)); (case aB => exact (bl)); (case aF => exact (fun k_ hk => (Nat.le_trans (below_size (bl)) hk))); (case aO => exact (rl HO_10)); (case aS => exact (below_size (bl))); (case aL => have := LMc52.out; omega); intro v266 w55 ho hb hg hat; rw [← Ny265.out] at ho; have n0_ := aM (Kd.V_afterv (ok := (fun k_ => ((P0_1_ k_ ∨ P0_2_ k_ ∨ P0_3_ k_) ∨ w.heap.size ≤ k_) ∧ some k_ ≠ (u11 : Value).ownBlock ∧ k_ ≠ gb256 ∧ k_ ≠ gb257)) (by (with_reducible repeat (first | apply Kd.V_alloc | apply Kd.V_drewN | apply Kd.V_drew)); exact Kd.V_mono HO_7.out (fun _ hk => ⟨⟨hk.1, ⟨hk.2.2.1, ⟨hk.2.2.2.1, hk.2.2.2.2⟩⟩⟩, hk.2.1⟩)) hg hat); have n1_ := aM (Kd.R_over' (rl HO_11) (Kd.R_typed (rl HO_10)) (by decide) hg); have n2_ := aM (Kd.V_afterv (ok := (fun k_ => ((P0_1_ k_ ∨ P0_2_ k_ ∨ P0_3_ k_) ∨ w.heap.size ≤ k_) ∧ some k_ ≠ (u11 : Value).ownBlock ∧ k_ ≠ gb256 ∧ k_ ≠ gb257)) (by (with_reducible repeat (first | apply Kd.V_alloc | apply Kd.V_drewN | apply Kd.V_drew)); exact Kd.V_mono HO_257001.out (fun _ hk => ⟨⟨hk.1, ⟨hk.2.2.1, ⟨hk.2.2.2.1, hk.2.2.2.2⟩⟩⟩, hk.2.1⟩)) hg hat); have n3_ := aM (Kd.V_afterv (ok := (fun k_ => ((P0_1_ k_ ∨ P0_2_ k_ ∨ P0_3_ k_) ∨ w.heap.size ≤ k_) ∧ some k_ ≠ (u11 : Value).ownBlock ∧ k_ ≠ gb256 ∧ k_ ≠ gb257)) (by (with_reducible repeat (first | apply Kd.V_alloc | apply Kd.V_drewN | apply Kd.V_drew)); exact Kd.V_mono HO_257002.out (fun _ hk => ⟨⟨hk.1, ⟨hk.2.2.1, ⟨hk.2.2.2.1, hk.2.2.2.2⟩⟩⟩, hk.2.1⟩)) hg hat); have n4_ := aM (Kd.V_afterv (ok := (fun k_ => ((P0_1_ k_ ∨ P0_2_ k_ ∨ P0_3_ k_) ∨ w.heap.size ≤ k_) ∧ some k_ ≠ (u11 : Value).ownBlock ∧ k_ ≠ gb256 ∧ k_ ≠ gb257)) (by (with_reducible repeat (first | apply Kd.V_alloc | apply Kd.V_drewN | apply Kd.V_drew)); exact Kd.V_mono HO_257003.out (fun _ hk => ⟨⟨hk.1, ⟨hk.2.2.1, ⟨hk.2.2.2.1, hk.2.2.2.2⟩⟩⟩, hk.2.1⟩)) hg hat); have n5_ := aM (blk_grown (g := gb256) (o := .cells #[.int .i64 a0_0, .slice (some ad264) x257001_1.length co48, u257002, .slice A0_3 l0_3.length c0_3] 31 (0, 0)) (kl BK256) hg (Kd.R_ne HO_10.out BK256.out (by decide))); have n6_ := aM (blk_grown (g := gb257) (o := .cells #[.int .i64 x258000_1, .slice none 0 0, .slice none 0 0, .slice none 0 0] 31 (0, 0)) (kl BK257) hg (Kd.R_ne HO_10.out BK257.out (by decide))); have n7_ := aM (hb); have n8_ := aM (ho); clear HO_7 HO_11 HO_257001 HO_257002 HO_257003 BK256 BK257 HB HO_10; have HO_7 := n0_; have HO_11 := n1_; have HO_257001 := n2_; have HO_257002 := n3_; have HO_257003 := n4_; have BK256 := n5_; have BK257 := n6_; have HB := n7_; have HO267 := n8_; clear n0_ n1_ n2_ n3_ n4_ n5_ n6_ n7_ n8_ ho hb hg hat; have hnb56 := NB256_257.out; have hnc56 := NB257_256.out; have hcz57_0 : w55.cell? ⟨gb256, 0, none⟩ = some (.int .i64 a0_0) := (kC BK256.out 0).trans rfl; have hcz57_1 : w55.cell? ⟨gb256, 1, none⟩ = some (.slice (some ad264) x257001_1.length co48) := (kC BK256.out 1).trans rfl; have hcz57_2 : w55.cell? ⟨gb256, 2, none⟩ = some (u257002) := (kC BK256.out 2).trans rfl; have hcz57_3 : w55.cell? ⟨gb256, 3, none⟩ = some (.slice A0_3 l0_3.length c0_3) := (kC BK256.out 3).trans rfl; have hfz57_0 := kF BK256.out 0; have hfz57_1 := kF BK256.out 1; have hfz57_2 := kF BK256.out 2; have hfz57_3 := kF BK256.out 3; obtain ⟨Ao58, co58, eo58⟩ := Kd.V_slice HO_257002.out; subst eo58; have p268 : 0 ≤ (x12_3 : Int) := of_decide_eq_true (by first | (with_reducible assumption) | assumption); have q268 : x12_3 < (x257002_1.length : Int) := of_decide_eq_true (by first | (with_reducible assumption) | assumption); obtain ⟨ad268, e268, hx268_0⟩ := Kd.at_int (Kd.V_reads' HO_257002.out).2.2 x12_3 p268 q268; cases e268; replace p268 := eq_true p268; replace q268 := eq_true q268) | ((with_reducible refine gate_builtin (b := .append) (xs := #[.tmp 73, .tmp 79]) rfl ?_); at_builtin; refine Kd.R_append (Kd.int .i64) (w0 := w) w.heap.size rfl (.tmp 73) (.tmp 79) 28 3 (.int .i64 0) 8 rfl Try.underlying28 info3 rfl (by decide) (by omega) u11 x11_3 (rd x257002_1 x12_3) [.int .i64 (rd x257002_1 x12_3)] (fun k_ => (w.heap.size ≤ k_)) (fun _ => False) rfl rfl ?aP (fun _ hk => hk.elim) ?aF ?aO ?aB ?aS ?aL ?_; (case aP => exact rfl); (case aB => exact (bl)); (case aF => exact (fun k_ hk => (Nat.le_trans (below_size (bl)) hk))); (case aO => exact (rl HO_11)); (case aS => exact (below_size (bl))); (case aL => have := LMc54.out; omega); intro v270 w59 ho hb hg hat; rw [← Ny269.out] at ho; have n0_ := aM (Kd.V_afterv (ok := (fun k_ => ((P0_1_ k_ ∨ P0_2_ k_ ∨ P0_3_ k_) ∨ w.heap.size ≤ k_) ∧ some k_ ≠ (v266 : Value).ownBlock ∧ k_ ≠ gb256 ∧ k_ ≠ gb257)) (by (with_reducible repeat (first | apply Kd.V_alloc | apply Kd.V_drewN | apply Kd.V_drew)); exact Kd.V_mono HO_7.out (fun _ hk => ⟨⟨hk.1.1, ⟨hk.2, ⟨hk.1.2.2.1, hk.1.2.2.2⟩⟩⟩, hk.1.2.1⟩)) hg hat); have n1_ := aM (Kd.V_afterv (ok := (fun k_ => ((P0_1_ k_ ∨ P0_2_ k_ ∨ P0_3_ k_) ∨ w.heap.size ≤ k_) ∧ some k_ ≠ (v266 : Value).ownBlock ∧ k_ ≠ gb256 ∧ k_ ≠ gb257)) (by (with_reducible repeat (first | apply Kd.V_alloc | apply Kd.V_drewN | apply Kd.V_drew)); exact Kd.V_mono HO_257001.out (fun _ hk => ⟨⟨hk.1.1, ⟨hk.2, ⟨hk.1.2.2.1, hk.1.2.2.2⟩⟩⟩, hk.1.2.1⟩)) hg hat); have n2_ := aM (Kd.V_afterv (ok := (fun k_ => ((P0_1_ k_ ∨ P0_2_ k_ ∨ P0_3_ k_) ∨ w.heap.size ≤ k_) ∧ some k_ ≠ (v266 : Value).ownBlock ∧ k_ ≠ gb256 ∧ k_ ≠ gb257)) (by (with_reducible repeat (first | apply Kd.V_alloc | apply Kd.V_drewN | apply Kd.V_drew)); exact Kd.V_mono HO_257002.out (fun _ hk => ⟨⟨hk.1.1, ⟨hk.2, ⟨hk.1.2.2.1, hk.1.2.2.2⟩⟩⟩, hk.1.2.1⟩)) hg hat); have n3_ := aM (Kd.V_afterv (ok := (fun k_ => ((P0_1_ k_ ∨ P0_2_ k_ ∨ P0_3_ k_) ∨ w.heap.size ≤ k_) ∧ some k_ ≠ (v266 : Value).ownBlock ∧ k_ ≠ gb256 ∧ k_ ≠ gb257)) (by (with_reducible repeat (first | apply Kd.V_alloc | apply Kd.V_drewN | apply Kd.V_drew)); exact Kd.V_mono HO_257003.out (fun _ hk => ⟨⟨hk.1.1, ⟨hk.2, ⟨hk.1.2.2.1, hk.1.2.2.2⟩⟩⟩, hk.1.2.1⟩)) hg hat); have n4_ := aM (blk_grown (g := gb256) (o := .cells #[.int .i64 a0_0, .slice (some ad264) x257001_1.length co48, .slice (some ad268) x257002_1.length co58, .slice A0_3 l0_3.length c0_3] 31 (0, 0)) (kl BK256) hg (Kd.R_ne HO_11.out BK256.out (by decide))); have n5_ := aM (blk_grown (g := gb257) (o := .cells #[.int .i64 x258000_1, .slice none 0 0, .slice none 0 0, .slice none 0 0] 31 (0, 0)) (kl BK257) hg (Kd.R_ne HO_11.out BK257.out (by decide))); have n6_ := aM (Kd.R_over' (rl HO267) (Kd.R_typed (rl HO_11)) (by decide) hg); have n7_ := aM (hb); have n8_ := aM (ho); clear HO_7 HO_257001 HO_257002 HO_257003 BK256 BK257 HO267 HB HO_11; have HO_7 := n0_; have HO_257001 := n1_; have HO_257002 := n2_; have HO_257003 := n3_; have BK256 := n4_; have BK257 := n5_; have HO267 := n6_; have HB := n7_; have HO271 := n8_; clear n0_ n1_ n2_ n3_ n4_ n5_ n6_ n7_ n8_ ho hb hg hat))
                go_roundg k3
                case measure => have := HK1.out; have := HK2.out; have := HK3.out; omega
                case rel => exact ⟨(y265), (y269), (wrap64 (x12_3 + 1)), (by first | rfl | (simp; done) | (simp [*]; done)), H', ⟨by have := HK1.out; have := HK2.out; have := HK3.out; omega⟩, ⟨by (with_reducible repeat (first | apply Kd.V_alloc | apply Kd.V_drewN | apply Kd.V_drew)); exact Kd.V_mono HO_7.out (fun _ hk => ⟨hk.1.1, ⟨hk.1.2.1, ⟨hk.2, ⟨hk.1.2.2.1, hk.1.2.2.2⟩⟩⟩⟩)⟩, ⟨by (with_reducible repeat (first | apply rA | apply rN | apply rD)); exact HO267.out⟩, ⟨by (with_reducible repeat (first | apply rA | apply rN | apply rD)); exact HO271.out⟩, ⟨by (with_reducible repeat (first | apply Kd.V_alloc | apply Kd.V_drewN | apply Kd.V_drew)); exact Kd.V_mono HO_257001.out (fun _ hk => ⟨hk.1.1, ⟨hk.1.2.1, ⟨hk.2, ⟨hk.1.2.2.1, hk.1.2.2.2⟩⟩⟩⟩)⟩, ⟨by (with_reducible repeat (first | apply Kd.V_alloc | apply Kd.V_drewN | apply Kd.V_drew)); exact Kd.V_mono HO_257002.out (fun _ hk => ⟨hk.1.1, ⟨hk.1.2.1, ⟨hk.2, ⟨hk.1.2.2.1, hk.1.2.2.2⟩⟩⟩⟩)⟩, ⟨by (with_reducible repeat (first | apply Kd.V_alloc | apply Kd.V_drewN | apply Kd.V_drew)); exact Kd.V_mono HO_257003.out (fun _ hk => ⟨hk.1.1, ⟨hk.1.2.1, ⟨hk.2, ⟨hk.1.2.2.1, hk.1.2.2.2⟩⟩⟩⟩)⟩, ⟨by (with_reducible repeat (first | refine kN ?_ _ | refine kD ?_ | refine kA ?_ _)); exact BK256.out⟩, ⟨by (with_reducible repeat (first | refine kN ?_ _ | refine kD ?_ | refine kA ?_ _)); exact BK257.out⟩, ⟨bl⟩⟩
               ·rw [if_neg c54] at H
                exact absurd H (by simp)
              ·rw [if_neg c53] at H
               exact absurd H (by simp)
             ·rw [if_neg c52] at H
              exact absurd H (by simp)
            ·rw [if_neg c51] at H
             exact absurd H (by simp)
          ·rw [if_neg c49] at H
           have c49b0 : decide (x12_3 < (x257001_1.length : Int)) = false := decide_eq_false c49
           clear c49
           have H' := aM H
           clear H
           obtain ⟨Ao60, co60, eo60⟩ := Kd.R_slice HO_10.out
           subst eo60
           have hnb61 := NB256_257.out
           have hnc61 := NB257_256.out
           have hcz62_0 : wr.cell? ⟨gb256, 0, none⟩ = some (.int .i64 a0_0) := (kC BK256.out 0).trans rfl
           have hcz62_1 : wr.cell? ⟨gb256, 1, none⟩ = some (.slice Ao48 x257001_1.length co48) := (kC BK256.out 1).trans rfl
           have hcz62_2 : wr.cell? ⟨gb256, 2, none⟩ = some (u257002) := (kC BK256.out 2).trans rfl
           have hcz62_3 : wr.cell? ⟨gb256, 3, none⟩ = some (.slice A0_3 l0_3.length c0_3) := (kC BK256.out 3).trans rfl
           have hfz62_0 := kF BK256.out 0
           have hfz62_1 := kF BK256.out 1
           have hfz62_2 := kF BK256.out 2
           have hfz62_3 := kF BK256.out 3
           obtain ⟨Ao63, co63, eo63⟩ := Kd.R_slice HO_11.out
           subst eo63
           go_wp2
           go_roundg k3
           case measure => have := HK1.out; have := HK2.out; have := HK3.out; omega
           case rel => exact ⟨(x10_3), (x11_3), (x258000_1), (.slice Ao60 x10_3.length co60), (.slice Ao63 x11_3.length co63), H', ⟨by have := HK1.out; have := HK2.out; have := HK3.out; omega⟩, ⟨Kd.V_mono (Kd.R_V (by (with_reducible repeat (first | apply rA | apply rN | apply rD)); exact (Kd.R_far (p := ⟨gb256, 2, none⟩) (Kd.R_far (p := ⟨gb256, 1, none⟩) (Kd.R_types (Kd.R_types (Kd.R_types HO_10.out BK256.out (by decide)) BK257.out (by decide)) BK256.out (by decide)) (fun _ hk => hk.2) (.slice Ao60 x10_3.length co60)) (fun _ hk => hk.2) (.slice Ao63 x11_3.length co63)))) (fun k_ hk => by first | exact ⟨(.inr (hk.1.1.1)), ⟨hk.1.1.2, hk.1.2⟩⟩ | exact (.inr (hk)))⟩, ⟨Kd.V_mono (Kd.R_V (by (with_reducible repeat (first | apply rA | apply rN | apply rD)); exact (Kd.R_far (p := ⟨gb256, 2, none⟩) (Kd.R_far (p := ⟨gb256, 1, none⟩) (Kd.R_types (Kd.R_types (Kd.R_types HO_11.out BK256.out (by decide)) BK257.out (by decide)) BK256.out (by decide)) (fun _ hk => hk.2) (.slice Ao60 x10_3.length co60)) (fun _ hk => hk.2) (.slice Ao63 x11_3.length co63)))) (fun k_ hk => by first | exact ⟨(.inr (hk.1.1.1)), ⟨hk.1.1.2, hk.1.2⟩⟩ | exact (.inr (hk)))⟩, ⟨by (with_reducible repeat (first | apply Kd.V_alloc | apply Kd.V_drewN | apply Kd.V_drew)); exact Kd.V_mono (Kd.V_far (p := ⟨gb256, 2, none⟩) (Kd.V_far (p := ⟨gb256, 1, none⟩) (Kd.V_mono HO_257003.out (fun k_ hk => (⟨hk, hk.2.2.2.1⟩ : _ ∧ k_ ≠ gb256))) (fun _ hk => hk.2) (.slice Ao60 x10_3.length co60)) (fun _ hk => hk.2) (.slice Ao63 x11_3.length co63)) (fun _ hk => ⟨hk.1.1, ⟨hk.1.2.2.2.1, hk.1.2.2.2.2⟩⟩)⟩, ⟨by (with_reducible repeat (first | refine kN ?_ _ | refine kD ?_ | refine kA ?_ _)); refine kP (cs := #[.int .i64 a0_0, .slice Ao60 x10_3.length co60, u257002, .slice A0_3 l0_3.length c0_3]) ?_ 2 _ rfl; (with_reducible repeat (first | refine kN ?_ _ | refine kD ?_ | refine kA ?_ _)); refine kP (cs := #[.int .i64 a0_0, .slice Ao48 x257001_1.length co48, u257002, .slice A0_3 l0_3.length c0_3]) ?_ 1 _ rfl; (with_reducible repeat (first | refine kN ?_ _ | refine kD ?_ | refine kA ?_ _)); exact BK256.out⟩, ⟨by (with_reducible repeat (first | refine kN ?_ _ | refine kD ?_ | refine kA ?_ _)); refine blk_far ?_ NB257_256.out _; (with_reducible repeat (first | refine kN ?_ _ | refine kD ?_ | refine kA ?_ _)); refine blk_far ?_ NB257_256.out _; (with_reducible repeat (first | refine kN ?_ _ | refine kD ?_ | refine kA ?_ _)); exact BK257.out⟩, ⟨bl⟩⟩
 ·replace c5 := Bool.eq_false_iff.mpr c5
  subst c5
  have H1 : (some (a0_0, l0_1, l0_2, l0_3)) = some (r1, r2, r3, r4) := by rw [if_neg (show ¬ (false = true) by decide)] at H; exact H
  clear H
  have H := H1
  clear H1
  simp only [Option.some.injEq, Prod.mk.injEq] at H
  obtain ⟨rfl, rfl, rfl, rfl⟩ := H
  go_enter Try.func14, Try.ntmps14
  go_wp2_with (first | ((with_reducible refine gate_dst (N := 3) rfl ?_); refine box_event ?hg (N := 3) ?hd (cs := #[.int .i64 a0_0, .slice A0_1 l0_1.length c0_1, .slice A0_2 l0_2.length c0_2, .slice A0_3 l0_3.length c0_3]) (t := 31) ?hr ?_; (case hd => rfl); (case hg => rfl); (case hr => first | (go_simp; done) | (go_simp; rfl)); intro gb256 hg w64 hbox hb; have n0_ := aM (Kd.V_below (Kd.V_elderB (by (with_reducible repeat (first | apply Kd.V_alloc | apply Kd.V_drewN | apply Kd.V_drew)); exact HO0_1.out) gb256 (Nat.le_of_eq hg.symm)) hb); have n1_ := aM (Kd.V_below (Kd.V_elderB (by (with_reducible repeat (first | apply Kd.V_alloc | apply Kd.V_drewN | apply Kd.V_drew)); exact HO0_2.out) gb256 (Nat.le_of_eq hg.symm)) hb); have n2_ := aM (Kd.V_below (Kd.V_elderB (by (with_reducible repeat (first | apply Kd.V_alloc | apply Kd.V_drewN | apply Kd.V_drew)); exact HO0_3.out) gb256 (Nat.le_of_eq hg.symm)) hb); have n3_ := aM (bS (bl) hb); have n4_ := aM (hbox); have n5_ := aM ((by rw [hg]; exact (below_size (bl)) : w.heap.size ≤ gb256)); have n6_ := aM ((by rw [hg]; exact (below_size (bl)) : w.heap.size ≤ gb256)); clear HO0_1 HO0_2 HO0_3 HB; have HO0_1 := n0_; have HO0_2 := n1_; have HO0_3 := n2_; have HB := n3_; have BK256 := n4_; have GW256 := n5_; have GE256 := n6_; clear n0_ n1_ n2_ n3_ n4_ n5_ n6_ hb hbox hg) | ((with_reducible refine gate_dst (N := 6) rfl ?_); refine box_event ?hg (N := 6) ?hd (cs := #[.int .i64 0, .slice none 0 0, .slice none 0 0, .slice none 0 0]) (t := 31) ?hr ?_; (case hd => rfl); (case hg => rfl); (case hr => first | (go_simp; done) | (go_simp; rfl)); intro gb257 hg w65 hbox hb; have n0_ := aM (Kd.V_below (Kd.V_elderB (by (with_reducible repeat (first | apply Kd.V_alloc | apply Kd.V_drewN | apply Kd.V_drew)); exact HO0_1.out) gb257 (Nat.le_of_eq hg.symm)) hb); have n1_ := aM (Kd.V_below (Kd.V_elderB (by (with_reducible repeat (first | apply Kd.V_alloc | apply Kd.V_drewN | apply Kd.V_drew)); exact HO0_2.out) gb257 (Nat.le_of_eq hg.symm)) hb); have n2_ := aM (Kd.V_below (Kd.V_elderB (by (with_reducible repeat (first | apply Kd.V_alloc | apply Kd.V_drewN | apply Kd.V_drew)); exact HO0_3.out) gb257 (Nat.le_of_eq hg.symm)) hb); have n3_ := aM (kB (g := gb256) (o := .cells #[.int .i64 a0_0, .slice A0_1 l0_1.length c0_1, .slice A0_2 l0_2.length c0_2, .slice A0_3 l0_3.length c0_3] 31 (0, 0)) (kl BK256) hb); have n4_ := aM (bS (bl) hb); have n5_ := aM (hbox); have n6_ := aM ((by rw [hg]; exact (below_size (bl)) : w.heap.size ≤ gb257)); have n7_ := aM ((by rw [hg]; exact (below_size (bl)) : w.heap.size ≤ gb257)); have n8_ := aM ((by rw [hg]; exact Nat.ne_of_lt (blk_lt (g := gb256) (o := .cells #[.int .i64 a0_0, .slice A0_1 l0_1.length c0_1, .slice A0_2 l0_2.length c0_2, .slice A0_3 l0_3.length c0_3] 31 (0, 0)) (kl BK256)) : gb256 ≠ gb257)); have n9_ := aM ((by rw [hg]; exact Nat.ne_of_gt (blk_lt (g := gb256) (o := .cells #[.int .i64 a0_0, .slice A0_1 l0_1.length c0_1, .slice A0_2 l0_2.length c0_2, .slice A0_3 l0_3.length c0_3] 31 (0, 0)) (kl BK256)) : gb257 ≠ gb256)); clear HO0_1 HO0_2 HO0_3 BK256 HB; have HO0_1 := n0_; have HO0_2 := n1_; have HO0_3 := n2_; have BK256 := n3_; have HB := n4_; have BK257 := n5_; have GW257 := n6_; have GE257 := n7_; have NB256_257 := n8_; have NB257_256 := n9_; clear n0_ n1_ n2_ n3_ n4_ n5_ n6_ n7_ n8_ n9_ hb hbox hg; have hnb66 := NB256_257.out; have hnc66 := NB257_256.out; have hcz67_0 : w65.cell? ⟨gb256, 0, none⟩ = some (.int .i64 a0_0) := (kC BK256.out 0).trans rfl; have hcz67_1 : w65.cell? ⟨gb256, 1, none⟩ = some (.slice A0_1 l0_1.length c0_1) := (kC BK256.out 1).trans rfl; have hcz67_2 : w65.cell? ⟨gb256, 2, none⟩ = some (.slice A0_2 l0_2.length c0_2) := (kC BK256.out 2).trans rfl; have hcz67_3 : w65.cell? ⟨gb256, 3, none⟩ = some (.slice A0_3 l0_3.length c0_3) := (kC BK256.out 3).trans rfl; have hfz67_0 := kF BK256.out 0; have hfz67_1 := kF BK256.out 1; have hfz67_2 := kF BK256.out 2; have hfz67_3 := kF BK256.out 3) | ((with_reducible refine gate_callee (f := 18) rfl ?_); refine goesL_ (some 14) rfl rfl Try.func18 (by kernel_rfl) rfl #[.agg #[.int .i64 a0_0, .slice A0_1 l0_1.length c0_1, .slice A0_2 l0_2.length c0_2, .slice A0_3 l0_3.length c0_3]] rfl (by (try simp only [List.map_toArray, List.map_cons, List.map_nil]); first | done | rfl | (simp only [List.length_drop, List.length_take]; rfl)) ?_; (with_reducible refine (mapmakerref26_Good.calls k a0_0 _ _ l0_1 _ _ l0_2 _ _ l0_3 false _ ?side1 ?side2 ?side3 ?side4 ?side5 ?side6 A4.out).mono ?_); (case side1 => repeat (first | exact (Kd.V_reads' HO0_1.out).2.2 | (with_reducible refine cA ?_ _) | (with_reducible refine cN ?_ _) | (with_reducible refine cD ?_))); (case side2 => exact (Kd.V_reads' HO0_1.out).2.1); (case side3 => repeat (first | exact (Kd.V_reads' HO0_2.out).2.2 | (with_reducible refine cA ?_ _) | (with_reducible refine cN ?_ _) | (with_reducible refine cD ?_))); (case side4 => exact (Kd.V_reads' HO0_2.out).2.1); (case side5 => repeat (first | exact (Kd.V_reads' HO0_3.out).2.2 | (with_reducible refine cA ?_ _) | (with_reducible refine cN ?_ _) | (with_reducible refine cD ?_))); (case side6 => exact (Kd.V_reads' HO0_3.out).2.1); rintro e w68 ⟨rfl, hb⟩; refine ⟨_, rfl, ?_⟩; have n0_ := aM (Kd.V_below (by (with_reducible repeat (first | apply Kd.V_alloc | apply Kd.V_drewN | apply Kd.V_drew)); exact HO0_1.out) hb); have n1_ := aM (Kd.V_below (by (with_reducible repeat (first | apply Kd.V_alloc | apply Kd.V_drewN | apply Kd.V_drew)); exact HO0_2.out) hb); have n2_ := aM (Kd.V_below (by (with_reducible repeat (first | apply Kd.V_alloc | apply Kd.V_drewN | apply Kd.V_drew)); exact HO0_3.out) hb); have n3_ := aM (kB (g := gb256) (o := .cells #[.int .i64 a0_0, .slice A0_1 l0_1.length c0_1, .slice A0_2 l0_2.length c0_2, .slice A0_3 l0_3.length c0_3] 31 (0, 0)) (kl BK256) hb); have n4_ := aM (kB (g := gb257) (o := .cells #[.int .i64 0, .slice none 0 0, .slice none 0 0, .slice none 0 0] 31 (0, 0)) (kl BK257) hb); have n5_ := aM (bS (bl) hb); clear HO0_1 HO0_2 HO0_3 BK256 BK257 HB; have HO0_1 := n0_; have HO0_2 := n1_; have HO0_3 := n2_; have BK256 := n3_; have BK257 := n4_; have HB := n5_; clear n0_ n1_ n2_ n3_ n4_ n5_; (try clear hb); (try clear hb2); (try clear hk); (try clear hi); have hcz69_0 : w68.cell? ⟨gb256, 0, none⟩ = some (.int .i64 a0_0) := (kC BK256.out 0).trans rfl; have hcz69_1 : w68.cell? ⟨gb256, 1, none⟩ = some (.slice A0_1 l0_1.length c0_1) := (kC BK256.out 1).trans rfl; have hcz69_2 : w68.cell? ⟨gb256, 2, none⟩ = some (.slice A0_2 l0_2.length c0_2) := (kC BK256.out 2).trans rfl; have hcz69_3 : w68.cell? ⟨gb256, 3, none⟩ = some (.slice A0_3 l0_3.length c0_3) := (kC BK256.out 3).trans rfl; have hfz69_0 := kF BK256.out 0; have hfz69_1 := kF BK256.out 1; have hfz69_2 := kF BK256.out 2; have hfz69_3 := kF BK256.out 3; have hcz70_0 : w68.cell? ⟨gb257, 0, none⟩ = some (.int .i64 0) := (kC BK257.out 0).trans rfl; have hcz70_1 : w68.cell? ⟨gb257, 1, none⟩ = some (.slice none 0 0) := (kC BK257.out 1).trans rfl; have hcz70_2 : w68.cell? ⟨gb257, 2, none⟩ = some (.slice none 0 0) := (kC BK257.out 2).trans rfl; have hcz70_3 : w68.cell? ⟨gb257, 3, none⟩ = some (.slice none 0 0) := (kC BK257.out 3).trans rfl; have hfz70_0 := kF BK257.out 0; have hfz70_1 := kF BK257.out 1; have hfz70_2 := kF BK257.out 2; have hfz70_3 := kF BK257.out 3))
  refine bodyPost_ret (results_cell_row rfl _ _ gb257 31 #[.int .i64 a0_0, .slice A0_1 l0_1.length c0_1, .slice A0_2 l0_2.length c0_2, .slice A0_3 l0_3.length c0_3] (0, 0) _ rfl (by (with_reducible repeat (first | refine kN ?_ _ | refine kD ?_ | refine kA ?_ _)); refine kP (cs := #[.int .i64 a0_0, .slice A0_1 l0_1.length c0_1, .slice A0_2 l0_2.length c0_2, .slice none 0 0]) ?_ 3 _ rfl; (with_reducible repeat (first | refine kN ?_ _ | refine kD ?_ | refine kA ?_ _)); refine kP (cs := #[.int .i64 a0_0, .slice A0_1 l0_1.length c0_1, .slice none 0 0, .slice none 0 0]) ?_ 2 _ rfl; (with_reducible repeat (first | refine kN ?_ _ | refine kD ?_ | refine kA ?_ _)); refine kP (cs := #[.int .i64 a0_0, .slice none 0 0, .slice none 0 0, .slice none 0 0]) ?_ 1 _ rfl; (with_reducible repeat (first | refine kN ?_ _ | refine kD ?_ | refine kA ?_ _)); refine kP (cs := #[.int .i64 0, .slice none 0 0, .slice none 0 0, .slice none 0 0]) ?_ 0 _ rfl; (with_reducible repeat (first | refine kN ?_ _ | refine kD ?_ | refine kA ?_ _)); exact BK257.out) Try.underlying31 rfl (by kernel_rfl)) rfl ?_
  exact ⟨_, _, _, by first | rfl | (simp [errW_none, errW_some] <;> rfl) | (simp [*, errW_none, errW_some] <;> rfl), by (with_reducible repeat (first | apply Kd.V_alloc | apply Kd.V_drewN | apply Kd.V_drew)); exact Kd.V_mono (Kd.V_far (p := ⟨gb257, 3, none⟩) (Kd.V_far (p := ⟨gb257, 2, none⟩) (Kd.V_far (p := ⟨gb257, 1, none⟩) (Kd.V_far (p := ⟨gb257, 0, none⟩) (Kd.V_mono HO0_1.out (fun k_ hk => (⟨hk, hk.2⟩ : _ ∧ k_ ≠ gb257))) (fun _ hk => hk.2) (.int .i64 a0_0)) (fun _ hk => hk.2) (.slice A0_1 l0_1.length c0_1)) (fun _ hk => hk.2) (.slice A0_2 l0_2.length c0_2)) (fun _ hk => hk.2) (.slice A0_3 l0_3.length c0_3)) (fun _ hk => hk.1.1.1), by (with_reducible repeat (first | apply Kd.V_alloc | apply Kd.V_drewN | apply Kd.V_drew)); exact Kd.V_mono (Kd.V_far (p := ⟨gb257, 3, none⟩) (Kd.V_far (p := ⟨gb257, 2, none⟩) (Kd.V_far (p := ⟨gb257, 1, none⟩) (Kd.V_far (p := ⟨gb257, 0, none⟩) (Kd.V_mono HO0_2.out (fun k_ hk => (⟨hk, hk.2⟩ : _ ∧ k_ ≠ gb257))) (fun _ hk => hk.2) (.int .i64 a0_0)) (fun _ hk => hk.2) (.slice A0_1 l0_1.length c0_1)) (fun _ hk => hk.2) (.slice A0_2 l0_2.length c0_2)) (fun _ hk => hk.2) (.slice A0_3 l0_3.length c0_3)) (fun _ hk => hk.1.1.1), by (with_reducible repeat (first | apply Kd.V_alloc | apply Kd.V_drewN | apply Kd.V_drew)); exact Kd.V_mono (Kd.V_far (p := ⟨gb257, 3, none⟩) (Kd.V_far (p := ⟨gb257, 2, none⟩) (Kd.V_far (p := ⟨gb257, 1, none⟩) (Kd.V_far (p := ⟨gb257, 0, none⟩) (Kd.V_mono HO0_3.out (fun k_ hk => (⟨hk, hk.2⟩ : _ ∧ k_ ≠ gb257))) (fun _ hk => hk.2) (.int .i64 a0_0)) (fun _ hk => hk.2) (.slice A0_1 l0_1.length c0_1)) (fun _ hk => hk.2) (.slice A0_2 l0_2.length c0_2)) (fun _ hk => hk.2) (.slice A0_3 l0_3.length c0_3)) (fun _ hk => hk.1.1.1), bl⟩
end Go.Proofs.Ytpgbfjndgbfhnaa.PAll
