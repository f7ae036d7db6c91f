-- out of a driver of this session's prover over the kit's print: Lean checks it
import Derived.Test.YtmejeiddlhjjmaaPNodingCleanx0
import Derived.Test.YtmejeiddlhjjmaaPNodingCleanx1
import Derived.Test.YtmejeiddlhjjmaaPNodingCleanx3
namespace Go.Proofs.Ytmejeiddlhjjmaa.PNodingClean
open Go.Proofs.YtmejeiddlhjjmaaG Go.Shelf Go.Lib
open Go.RowKit Go.Proofs.YtmejeiddlhjjmaaW.PrintWords Go.Proofs.YtmejeiddlhjjmaaW.PrintLast Go.Proofs.YtmejeiddlhjjmaaW.PrintMore
attribute [local go_sem] max2_int min2_int max_two min_two max_three min_three max_four min_four   -- for this text's walks alone
set_option linter.unusedVariables false
set_option linter.unusedSimpArgs false
attribute [local go_sem high] eqA33
mutual
def seg_flat.j0 : Nat → Int → Int → Int → Int → Int → Int → Int → Int → Option (Int)
 | 0, _, _, _, _, _, _, _, _ => none
 | k + 1, x162000, x162001, x162002, x162003, x163000, x163001, x164000, x164001 => (grid_Less.f x162002 x162003 x164000 x164001).bind fun t165 => (if t165 = true then (seg_flat.j1 k x163000 x163001 x162002 x162003) else (seg_flat.j1 k x163000 x163001 x164000 x164001))
def seg_flat.j1 : Nat → Int → Int → Int → Int → Option (Int)
 | 0, _, _, _, _ => none
 | k + 1, x163000, x163001, x164000, x164001 => (grid_Less.f x163000 x163001 x164000 x164001).bind fun t166 => (if t166 = true then (some 3) else (if (x163000 == x164000 && (x163001 == x164001)) = true then (some 1) else (some 0)))
end
def seg_flat.f (k : Nat) (a0_0 : Int) (a0_1 : Int) (a0_2 : Int) (a0_3 : Int) (a1_0 : Int) (a1_1 : Int) (a1_2 : Int) (a1_3 : Int) : Option (Int) := (grid_Less.f a0_0 a0_1 a1_0 a1_1).bind fun t164 => (if t164 = true then (seg_flat.j0 k a1_0 a1_1 a1_2 a1_3 a1_0 a1_1 a0_2 a0_3) else (seg_flat.j0 k a1_0 a1_1 a1_2 a1_3 a0_0 a0_1 a0_2 a0_3))
theorem seg_flat.mono_l : ∀ k, (∀ y0 y1 y2 y3 y4 y5 y6 y7, LeO (seg_flat.j0 k y0 y1 y2 y3 y4 y5 y6 y7) (seg_flat.j0 (k + 1) y0 y1 y2 y3 y4 y5 y6 y7)) ∧ (∀ y0 y1 y2 y3, LeO (seg_flat.j1 k y0 y1 y2 y3) (seg_flat.j1 (k + 1) y0 y1 y2 y3))
 | 0 => ⟨fun _ _ _ _ _ _ _ _ r h => by simp [seg_flat.j0] at h, fun _ _ _ _ r h => by simp [seg_flat.j1] at h⟩
 | k + 1 => by
  obtain ⟨ih0, ih1⟩ := seg_flat.mono_l k
  refine ⟨?_, ?_⟩
  ·intro y0 y1 y2 y3 y4 y5 y6 y7
   unfold seg_flat.j0
   repeat' first
   | (with_reducible exact ih0 _ _ _ _ _ _ _ _)
   | (with_reducible exact ih1 _ _ _ _)
   | (with_reducible exact LeO.refl _)
   | (with_reducible exact LeO.none _)
   | (with_reducible refine LeO.ite ?_ ?_)
   | (with_reducible refine LeO.bind ?_ (fun _ => ?_))
   | exact ih0 _ _ _ _ _ _ _ _
   | exact ih1 _ _ _ _
   | exact LeO.none _
   | refine LeO.ite ?_ ?_
   | refine LeO.bind ?_ (fun _ => ?_)
  ·intro y0 y1 y2 y3
   unfold seg_flat.j1
   repeat' first
   | (with_reducible exact ih0 _ _ _ _ _ _ _ _)
   | (with_reducible exact ih1 _ _ _ _)
   | (with_reducible exact LeO.refl _)
   | (with_reducible exact LeO.none _)
   | (with_reducible refine LeO.ite ?_ ?_)
   | (with_reducible refine LeO.bind ?_ (fun _ => ?_))
   | exact ih0 _ _ _ _ _ _ _ _
   | exact ih1 _ _ _ _
   | exact LeO.none _
   | refine LeO.ite ?_ ?_
   | refine LeO.bind ?_ (fun _ => ?_)
theorem seg_flat.mono : ∀ a0 a1 a2 a3 a4 a5 a6 a7 k, LeO (seg_flat.f k a0 a1 a2 a3 a4 a5 a6 a7) (seg_flat.f (k + 1) a0 a1 a2 a3 a4 a5 a6 a7) := by
 intro a0 a1 a2 a3 a4 a5 a6 a7 k
 obtain ⟨ih0, ih1⟩ := seg_flat.mono_l k
 unfold seg_flat.f
 repeat' first
   | (with_reducible exact ih0 _ _ _ _ _ _ _ _)
   | (with_reducible exact ih1 _ _ _ _)
   | (with_reducible exact LeO.refl _)
   | (with_reducible exact LeO.none _)
   | (with_reducible refine LeO.ite ?_ ?_)
   | (with_reducible refine LeO.bind ?_ (fun _ => ?_))
   | exact ih0 _ _ _ _ _ _ _ _
   | exact ih1 _ _ _ _
   | exact LeO.none _
   | refine LeO.ite ?_ ?_
   | refine LeO.bind ?_ (fun _ => ?_)
def seg_flat.T1 : Bool × List (List Nat × List Nat) := (true, [([], []), ([0], [0]), ([], []), ([2], [2]), ([], []), ([], []), ([4, 1, 0, 1, 4, 5], [1, 4]), ([5, 3, 6, 0, 1, 2, 3, 4, 5, 6], [3, 5])])
def seg_flat.B1 : List Nat := [0, 1, 0, 4, 0, 0, 51, 127]
theorem seg_flat.tab1 : rtab .any (opsOf Try.f65 1) = seg_flat.T1 := by kernel_rfl
theorem seg_flat.bits1 : waitsOk seg_flat.T1.2 seg_flat.B1 = true := by kernel_rfl
set_option maxHeartbeats 8000000 in
set_option maxRecDepth 100000 in
theorem seg_flat.calls (k : Nat) (a0_0 : Int) (a0_1 : Int) (a0_2 : Int) (a0_3 : Int) (a1_0 : Int) (a1_1 : Int) (a1_2 : Int) (a1_3 : Int) (r : Int) (w : World) (h : seg_flat.f k a0_0 a0_1 a0_2 a0_3 a1_0 a1_1 a1_2 a1_3 = some r) :
  Calls Try.prog 65 #[.agg #[.int .i64 a0_0, .int .i64 a0_1, .int .i64 a0_2, .int .i64 a0_3], .agg #[.int .i64 a1_0, .int .i64 a1_1, .int .i64 a1_2, .int .i64 a1_3]] w fun e w' => e = .returned (.int .i64 r) ∧ Below w.heap.size w w' := by
 have hu35 := Try.underlying35
 have hu33 := Try.underlying33
 have HB := aM (Below.refl w.heap.size w)
 have H : ((grid_Less.f a0_0 a0_1 a1_0 a1_1).bind fun t164 => (if t164 = true then (seg_flat.j0 k a1_0 a1_1 a1_2 a1_3 a1_0 a1_1 a0_2 a0_3) else (seg_flat.j0 k a1_0 a1_1 a1_2 a1_3 a0_0 a0_1 a0_2 a0_3))) = some r := h
 clear h
 replace H := Option.bind_eq_some_iff.mp H
 obtain ⟨t164, A30, H⟩ := H
 try dsimp only at H
 have A3 := aM A30
 clear A30
 have HC4 := aM H
 clear H
 go_enter Try.func65, Try.ntmps65
 try go_wp2_with (first | ((with_reducible refine gate_dst (N := 2) rfl ?_); refine box_event ?hg (N := 2) ?hd (cs := #[.int .i64 a0_0, .int .i64 a0_1, .int .i64 a0_2, .int .i64 a0_3]) (t := 35) ?hr ?_; (case hd => rfl); (case hg => rfl); (case hr => first | (go_simp; done) | (go_simp; rfl)); intro gb160 hg w5 hbox hb; have n0_ := aM (bS (bl) hb); have n1_ := aM (hbox); have n2_ := aM ((by rw [hg]; exact (below_size (bl)) : w.heap.size ≤ gb160)); have n3_ := aM ((by rw [hg]; exact (below_size (bl)) : w.heap.size ≤ gb160)); clear HB; have HB := n0_; have BK160 := n1_; have GW160 := n2_; have GE160 := n3_; clear n0_ n1_ n2_ n3_ hb hbox hg) | ((with_reducible refine gate_dst (N := 3) rfl ?_); refine box_event ?hg (N := 3) ?hd (cs := #[.int .i64 a1_0, .int .i64 a1_1, .int .i64 a1_2, .int .i64 a1_3]) (t := 35) ?hr ?_; (case hd => rfl); (case hg => rfl); (case hr => first | (go_simp; done) | (go_simp; rfl)); intro gb161 hg w6 hbox hb; have n0_ := aM (kB (g := gb160) (o := .cells #[.int .i64 a0_0, .int .i64 a0_1, .int .i64 a0_2, .int .i64 a0_3] 35 (0, 0)) (kl BK160) hb); have n1_ := aM (bS (bl) hb); have n2_ := aM (hbox); have n3_ := aM ((by rw [hg]; exact (below_size (bl)) : w.heap.size ≤ gb161)); have n4_ := aM ((by rw [hg]; exact (below_size (bl)) : w.heap.size ≤ gb161)); have n5_ := aM ((by rw [hg]; exact Nat.ne_of_lt (blk_lt (g := gb160) (o := .cells #[.int .i64 a0_0, .int .i64 a0_1, .int .i64 a0_2, .int .i64 a0_3] 35 (0, 0)) (kl BK160)) : gb160 ≠ gb161)); have n6_ := aM ((by rw [hg]; exact Nat.ne_of_gt (blk_lt (g := gb160) (o := .cells #[.int .i64 a0_0, .int .i64 a0_1, .int .i64 a0_2, .int .i64 a0_3] 35 (0, 0)) (kl BK160)) : gb161 ≠ gb160)); clear BK160 HB; have BK160 := n0_; have HB := n1_; have BK161 := n2_; have GW161 := n3_; have GE161 := n4_; have NB160_161 := n5_; have NB161_160 := n6_; clear n0_ n1_ n2_ n3_ n4_ n5_ n6_ hb hbox hg))
 replace BK160 := aM (kD BK160.out)
 replace BK161 := aM (kD BK161.out)
 replace HB := aM (bD HB.out)
 refine start_ (n := 8) (S := fun w' => w'.cell? ⟨gb160, 0, none⟩ = some (.int .i64 a0_0) ∧ w'.cell? ⟨gb160, 1, none⟩ = some (.int .i64 a0_1) ∧ w'.cell? ⟨gb160, 2, none⟩ = some (.int .i64 a0_2) ∧ w'.cell? ⟨gb160, 3, none⟩ = some (.int .i64 a0_3)) (ds := []) #[false, false, false, false, false, false, false, false] (by kernel_rfl) rfl rfl ⟨(kC BK160.out 0).trans rfl, (kC BK160.out 1).trans rfl, (kC BK160.out 2).trans rfl, (kC BK160.out 3).trans rfl⟩ (fun hHeld => ?_); refine with_tabW seg_flat.tab1 seg_flat.bits1 (fun HT_ HW_ => ?_)
 generalize w6.drew = w7 at BK160 BK161 HB hHeld ⊢
 refine pure_ (i := 0) (N := some 7) (v := ?_) (a' := ?_) (ba 8 1) rfl rfl (any_of HT_.out (by kernel_rfl)) (fun _ _ _ h => h) (Or.inl ⟨by rfl, ?_⟩) ?_ ?_
 rotate_left
 ·intro w'
  go_simp
  with_reducible rfl
 rotate_left
 ·simp only [Act.put, sA, sB, sC, i64_w, i32_w]
  rfl
 refine pure_ (i := 2) (N := some 9) (v := ?_) (a' := ?_) (ba 8 5) rfl rfl (any_of HT_.out (by kernel_rfl)) (fun _ _ _ h => h) (Or.inl ⟨by rfl, ?_⟩) ?_ ?_
 rotate_left
 ·intro w'
  go_simp
  with_reducible rfl
 rotate_left
 ·simp only [Act.put, sA, sB, sC, i64_w, i32_w]
  rfl
 refine take_ (i := 1) (N := some 8) (v := ?_) (a' := ?_) (ba 8 7) rfl rfl (take_ofW HT_.out HW_.out (by kernel_rfl)) (fun _ _ _ h => h) (Or.inl ⟨by rfl, ?_⟩) hHeld ?_ ?_
 rotate_left
 ·rintro w' ⟨s0, s1, s2, s3⟩
  go_simp
  with_reducible rfl
 rotate_left
 ·simp only [Act.put, sA, sB, sC, i64_w, i32_w]
  rfl
 refine take_ (i := 3) (N := some 10) (v := ?_) (a' := ?_) (ba 8 15) rfl rfl (take_ofW HT_.out HW_.out (by kernel_rfl)) (fun _ _ _ h => h) (Or.inl ⟨by rfl, ?_⟩) hHeld ?_ ?_
 rotate_left
 ·rintro w' ⟨s0, s1, s2, s3⟩
  go_simp
  with_reducible rfl
 rotate_left
 ·simp only [Act.put, sA, sB, sC, i64_w, i32_w]
  rfl
 refine join_ (σ := Nat × Nat) 2 #[true, true, true, true, true, true, false, false] (fun s_ => [(5, .pointer (some ⟨s_.1, 0, none⟩)), (6, .pointer (some ⟨s_.2, 0, none⟩))]) (fun s_ w' => (w'.cell? ⟨gb160, 0, none⟩ = some (.int .i64 a0_0) ∧ w'.cell? ⟨gb160, 1, none⟩ = some (.int .i64 a0_1) ∧ w'.cell? ⟨gb160, 2, none⟩ = some (.int .i64 a0_2) ∧ w'.cell? ⟨gb160, 3, none⟩ = some (.int .i64 a0_3)) ∧ (w'.heap[gb160]? = some (.cells #[.int .i64 a0_0, .int .i64 a0_1, .int .i64 a0_2, .int .i64 a0_3] 35 (0, 0))) ∧ (w'.heap[gb161]? = some (.cells #[.int .i64 a1_0, .int .i64 a1_1, .int .i64 a1_2, .int .i64 a1_3] 35 (0, 0))) ∧ (w'.heap[s_.1]? = some (.cells #[.int .i64 0, .int .i64 0] 33 (0, 0))) ∧ (w'.heap[s_.2]? = some (.cells #[.int .i64 0, .int .i64 0] 33 (0, 0))) ∧ (w.heap.size ≤ s_.1) ∧ (w.heap.size ≤ s_.1) ∧ (gb160 ≠ s_.1) ∧ (s_.1 ≠ gb160) ∧ (gb161 ≠ s_.1) ∧ (s_.1 ≠ gb161) ∧ (s_.2 ≠ s_.1) ∧ (s_.1 ≠ s_.2) ∧ (w.heap.size ≤ s_.2) ∧ (w.heap.size ≤ s_.2) ∧ (gb160 ≠ s_.2) ∧ (s_.2 ≠ gb160) ∧ (gb161 ≠ s_.2) ∧ (s_.2 ≠ gb161) ∧ (Below w.heap.size w w')) ?_ ?_
 rotate_left
 ·intro hCont
  refine two_ (i := 4) (j := 5) (Ni := some 5) (Nj := some 6) #[true, true, true, true, true, false, false, false] #[true, true, true, true, false, true, false, false] rfl rfl rfl rfl (two_of HT_.out (by kernel_rfl)) (by decide) (by decide) (fun K hK => ?_) (fun K hK => ?_)
  ·skip
   refine box_step ?hg (N := 5) ?hd (cs := #[.int .i64 0, .int .i64 0]) (t := 33) ?hr ?_; (case hd => rfl); (case hg => rfl); (case hr => first | (go_simp; done) | (go_simp; rfl))
   intro gb162 hg w8 hbox hb
   have n0_ := aM (kB (g := gb160) (o := .cells #[.int .i64 a0_0, .int .i64 a0_1, .int .i64 a0_2, .int .i64 a0_3] 35 (0, 0)) (kl BK160) hb)
   have n1_ := aM (kB (g := gb161) (o := .cells #[.int .i64 a1_0, .int .i64 a1_1, .int .i64 a1_2, .int .i64 a1_3] 35 (0, 0)) (kl BK161) hb)
   have n2_ := aM (bS (bl) hb)
   have n3_ := aM (hbox)
   have n4_ := aM ((by rw [hg]; exact (below_size (bl)) : w.heap.size ≤ gb162))
   have n5_ := aM ((by rw [hg]; exact (below_size (bl)) : w.heap.size ≤ gb162))
   have n6_ := aM ((by rw [hg]; exact Nat.ne_of_lt (blk_lt (g := gb160) (o := .cells #[.int .i64 a0_0, .int .i64 a0_1, .int .i64 a0_2, .int .i64 a0_3] 35 (0, 0)) (kl BK160)) : gb160 ≠ gb162))
   have n7_ := aM ((by rw [hg]; exact Nat.ne_of_gt (blk_lt (g := gb160) (o := .cells #[.int .i64 a0_0, .int .i64 a0_1, .int .i64 a0_2, .int .i64 a0_3] 35 (0, 0)) (kl BK160)) : gb162 ≠ gb160))
   have n8_ := aM ((by rw [hg]; exact Nat.ne_of_lt (blk_lt (g := gb161) (o := .cells #[.int .i64 a1_0, .int .i64 a1_1, .int .i64 a1_2, .int .i64 a1_3] 35 (0, 0)) (kl BK161)) : gb161 ≠ gb162))
   have n9_ := aM ((by rw [hg]; exact Nat.ne_of_gt (blk_lt (g := gb161) (o := .cells #[.int .i64 a1_0, .int .i64 a1_1, .int .i64 a1_2, .int .i64 a1_3] 35 (0, 0)) (kl BK161)) : gb162 ≠ gb161))
   clear BK160 BK161 HB
   have BK160 := n0_
   have BK161 := n1_
   have HB := n2_
   have BK162 := n3_
   have GW162 := n4_
   have GE162 := n5_
   have NB160_162 := n6_
   have NB162_160 := n7_
   have NB161_162 := n8_
   have NB162_161 := n9_
   clear n0_ n1_ n2_ n3_ n4_ n5_ n6_ n7_ n8_ n9_ hb hbox hg
   refine hK.out _ _ ⟨(kC BK160.out 0).trans rfl, (kC BK160.out 1).trans rfl, (kC BK160.out 2).trans rfl, (kC BK160.out 3).trans rfl⟩ (fun hHeld => ?_)
   clear hK K
   refine norm_ (a' := ?_) ?_ ?_
   rotate_left
   ·show Act.put _ (some 5) _ = _
    simp only [Act.put, sA, sB, sC, i64_w, i32_w]
    rfl
   refine one_ (i := 5) (N := some 6) (ba 8 63) rfl rfl (one_of HT_.out (by kernel_rfl)) (by decide) (fun K hK => ?_)
   refine box_step ?hg (N := 6) ?hd (cs := #[.int .i64 0, .int .i64 0]) (t := 33) ?hr ?_; (case hd => rfl); (case hg => rfl); (case hr => first | (go_simp; done) | (go_simp; rfl))
   intro gb163 hg w9 hbox hb
   have n0_ := aM (kB (g := gb160) (o := .cells #[.int .i64 a0_0, .int .i64 a0_1, .int .i64 a0_2, .int .i64 a0_3] 35 (0, 0)) (kl BK160) hb)
   have n1_ := aM (kB (g := gb161) (o := .cells #[.int .i64 a1_0, .int .i64 a1_1, .int .i64 a1_2, .int .i64 a1_3] 35 (0, 0)) (kl BK161) hb)
   have n2_ := aM (kB (g := gb162) (o := .cells #[.int .i64 0, .int .i64 0] 33 (0, 0)) (kl BK162) hb)
   have n3_ := aM (bS (bl) hb)
   have n4_ := aM (hbox)
   have n5_ := aM ((by rw [hg]; exact (below_size (bl)) : w.heap.size ≤ gb163))
   have n6_ := aM ((by rw [hg]; exact (below_size (bl)) : w.heap.size ≤ gb163))
   have n7_ := aM ((by rw [hg]; exact Nat.ne_of_lt (blk_lt (g := gb160) (o := .cells #[.int .i64 a0_0, .int .i64 a0_1, .int .i64 a0_2, .int .i64 a0_3] 35 (0, 0)) (kl BK160)) : gb160 ≠ gb163))
   have n8_ := aM ((by rw [hg]; exact Nat.ne_of_gt (blk_lt (g := gb160) (o := .cells #[.int .i64 a0_0, .int .i64 a0_1, .int .i64 a0_2, .int .i64 a0_3] 35 (0, 0)) (kl BK160)) : gb163 ≠ gb160))
   have n9_ := aM ((by rw [hg]; exact Nat.ne_of_lt (blk_lt (g := gb161) (o := .cells #[.int .i64 a1_0, .int .i64 a1_1, .int .i64 a1_2, .int .i64 a1_3] 35 (0, 0)) (kl BK161)) : gb161 ≠ gb163))
   have n10_ := aM ((by rw [hg]; exact Nat.ne_of_gt (blk_lt (g := gb161) (o := .cells #[.int .i64 a1_0, .int .i64 a1_1, .int .i64 a1_2, .int .i64 a1_3] 35 (0, 0)) (kl BK161)) : gb163 ≠ gb161))
   have n11_ := aM ((by rw [hg]; exact Nat.ne_of_lt (blk_lt (g := gb162) (o := .cells #[.int .i64 0, .int .i64 0] 33 (0, 0)) (kl BK162)) : gb162 ≠ gb163))
   have n12_ := aM ((by rw [hg]; exact Nat.ne_of_gt (blk_lt (g := gb162) (o := .cells #[.int .i64 0, .int .i64 0] 33 (0, 0)) (kl BK162)) : gb163 ≠ gb162))
   clear BK160 BK161 BK162 HB
   have BK160 := n0_
   have BK161 := n1_
   have BK162 := n2_
   have HB := n3_
   have BK163 := n4_
   have GW163 := n5_
   have GE163 := n6_
   have NB160_163 := n7_
   have NB163_160 := n8_
   have NB161_163 := n9_
   have NB163_161 := n10_
   have NB162_163 := n11_
   have NB163_162 := n12_
   clear n0_ n1_ n2_ n3_ n4_ n5_ n6_ n7_ n8_ n9_ n10_ n11_ n12_ hb hbox hg
   refine hK.out _ _ ⟨(kC BK160.out 0).trans rfl, (kC BK160.out 1).trans rfl, (kC BK160.out 2).trans rfl, (kC BK160.out 3).trans rfl⟩ (fun hHeld => ?_)
   clear hK K
   refine norm_ (a' := ?_) ?_ ?_
   rotate_left
   ·show Act.put _ (some 6) _ = _
    simp only [Act.put, sA, sB, sC, i64_w, i32_w]
    rfl
   exact norm_ (by simp only [putAll, Act.put, sA, sB, sC]) (hCont (gb162, gb163) _ ⟨hHeld, (kl BK160), (kl BK161), (kl BK162), (kl BK163), GW162.out, GE162.out, NB160_162.out, NB162_160.out, NB161_162.out, NB162_161.out, NB163_162.out, NB162_163.out, GW163.out, GE163.out, NB160_163.out, NB163_160.out, NB161_163.out, NB163_161.out, (bl)⟩)
  ·skip
   refine box_step ?hg (N := 6) ?hd (cs := #[.int .i64 0, .int .i64 0]) (t := 33) ?hr ?_; (case hd => rfl); (case hg => rfl); (case hr => first | (go_simp; done) | (go_simp; rfl))
   intro gb163 hg w8 hbox hb
   have n0_ := aM (kB (g := gb160) (o := .cells #[.int .i64 a0_0, .int .i64 a0_1, .int .i64 a0_2, .int .i64 a0_3] 35 (0, 0)) (kl BK160) hb)
   have n1_ := aM (kB (g := gb161) (o := .cells #[.int .i64 a1_0, .int .i64 a1_1, .int .i64 a1_2, .int .i64 a1_3] 35 (0, 0)) (kl BK161) hb)
   have n2_ := aM (bS (bl) hb)
   have n3_ := aM (hbox)
   have n4_ := aM ((by rw [hg]; exact (below_size (bl)) : w.heap.size ≤ gb163))
   have n5_ := aM ((by rw [hg]; exact (below_size (bl)) : w.heap.size ≤ gb163))
   have n6_ := aM ((by rw [hg]; exact Nat.ne_of_lt (blk_lt (g := gb160) (o := .cells #[.int .i64 a0_0, .int .i64 a0_1, .int .i64 a0_2, .int .i64 a0_3] 35 (0, 0)) (kl BK160)) : gb160 ≠ gb163))
   have n7_ := aM ((by rw [hg]; exact Nat.ne_of_gt (blk_lt (g := gb160) (o := .cells #[.int .i64 a0_0, .int .i64 a0_1, .int .i64 a0_2, .int .i64 a0_3] 35 (0, 0)) (kl BK160)) : gb163 ≠ gb160))
   have n8_ := aM ((by rw [hg]; exact Nat.ne_of_lt (blk_lt (g := gb161) (o := .cells #[.int .i64 a1_0, .int .i64 a1_1, .int .i64 a1_2, .int .i64 a1_3] 35 (0, 0)) (kl BK161)) : gb161 ≠ gb163))
   have n9_ := aM ((by rw [hg]; exact Nat.ne_of_gt (blk_lt (g := gb161) (o := .cells #[.int .i64 a1_0, .int .i64 a1_1, .int .i64 a1_2, .int .i64 a1_3] 35 (0, 0)) (kl BK161)) : gb163 ≠ gb161))
   clear BK160 BK161 HB
   have BK160 := n0_
   have BK161 := n1_
   have HB := n2_
   have BK163 := n3_
   have GW163 := n4_
   have GE163 := n5_
   have NB160_163 := n6_
   have NB163_160 := n7_
   have NB161_163 := n8_
   have NB163_161 := n9_
   clear n0_ n1_ n2_ n3_ n4_ n5_ n6_ n7_ n8_ n9_ hb hbox hg
   refine hK.out _ _ ⟨(kC BK160.out 0).trans rfl, (kC BK160.out 1).trans rfl, (kC BK160.out 2).trans rfl, (kC BK160.out 3).trans rfl⟩ (fun hHeld => ?_)
   clear hK K
   refine norm_ (a' := ?_) ?_ ?_
   rotate_left
   ·show Act.put _ (some 6) _ = _
    simp only [Act.put, sA, sB, sC, i64_w, i32_w]
    rfl
   refine one_ (i := 4) (N := some 5) (ba 8 63) rfl rfl (one_of HT_.out (by kernel_rfl)) (by decide) (fun K hK => ?_)
   refine box_step ?hg (N := 5) ?hd (cs := #[.int .i64 0, .int .i64 0]) (t := 33) ?hr ?_; (case hd => rfl); (case hg => rfl); (case hr => first | (go_simp; done) | (go_simp; rfl))
   intro gb162 hg w9 hbox hb
   have n0_ := aM (kB (g := gb160) (o := .cells #[.int .i64 a0_0, .int .i64 a0_1, .int .i64 a0_2, .int .i64 a0_3] 35 (0, 0)) (kl BK160) hb)
   have n1_ := aM (kB (g := gb161) (o := .cells #[.int .i64 a1_0, .int .i64 a1_1, .int .i64 a1_2, .int .i64 a1_3] 35 (0, 0)) (kl BK161) hb)
   have n2_ := aM (kB (g := gb163) (o := .cells #[.int .i64 0, .int .i64 0] 33 (0, 0)) (kl BK163) hb)
   have n3_ := aM (bS (bl) hb)
   have n4_ := aM (hbox)
   have n5_ := aM ((by rw [hg]; exact (below_size (bl)) : w.heap.size ≤ gb162))
   have n6_ := aM ((by rw [hg]; exact (below_size (bl)) : w.heap.size ≤ gb162))
   have n7_ := aM ((by rw [hg]; exact Nat.ne_of_lt (blk_lt (g := gb160) (o := .cells #[.int .i64 a0_0, .int .i64 a0_1, .int .i64 a0_2, .int .i64 a0_3] 35 (0, 0)) (kl BK160)) : gb160 ≠ gb162))
   have n8_ := aM ((by rw [hg]; exact Nat.ne_of_gt (blk_lt (g := gb160) (o := .cells #[.int .i64 a0_0, .int .i64 a0_1, .int .i64 a0_2, .int .i64 a0_3] 35 (0, 0)) (kl BK160)) : gb162 ≠ gb160))
   have n9_ := aM ((by rw [hg]; exact Nat.ne_of_lt (blk_lt (g := gb161) (o := .cells #[.int .i64 a1_0, .int .i64 a1_1, .int .i64 a1_2, .int .i64 a1_3] 35 (0, 0)) (kl BK161)) : gb161 ≠ gb162))
   have n10_ := aM ((by rw [hg]; exact Nat.ne_of_gt (blk_lt (g := gb161) (o := .cells #[.int .i64 a1_0, .int .i64 a1_1, .int .i64 a1_2, .int .i64 a1_3] 35 (0, 0)) (kl BK161)) : gb162 ≠ gb161))
   have n11_ := aM ((by rw [hg]; exact Nat.ne_of_lt (blk_lt (g := gb163) (o := .cells #[.int .i64 0, .int .i64 0] 33 (0, 0)) (kl BK163)) : gb163 ≠ gb162))
   have n12_ := aM ((by rw [hg]; exact Nat.ne_of_gt (blk_lt (g := gb163) (o := .cells #[.int .i64 0, .int .i64 0] 33 (0, 0)) (kl BK163)) : gb162 ≠ gb163))
   clear BK160 BK161 BK163 HB
   have BK160 := n0_
   have BK161 := n1_
   have BK163 := n2_
   have HB := n3_
   have BK162 := n4_
   have GW162 := n5_
   have GE162 := n6_
   have NB160_162 := n7_
   have NB162_160 := n8_
   have NB161_162 := n9_
   have NB162_161 := n10_
   have NB163_162 := n11_
   have NB162_163 := n12_
   clear n0_ n1_ n2_ n3_ n4_ n5_ n6_ n7_ n8_ n9_ n10_ n11_ n12_ hb hbox hg
   refine hK.out _ _ ⟨(kC BK160.out 0).trans rfl, (kC BK160.out 1).trans rfl, (kC BK160.out 2).trans rfl, (kC BK160.out 3).trans rfl⟩ (fun hHeld => ?_)
   clear hK K
   refine norm_ (a' := ?_) ?_ ?_
   rotate_left
   ·show Act.put _ (some 5) _ = _
    simp only [Act.put, sA, sB, sC, i64_w, i32_w]
    rfl
   exact norm_ (by simp only [putAll, Act.put, sA, sB, sC]) (hCont (gb162, gb163) _ ⟨hHeld, (kl BK160), (kl BK161), (kl BK162), (kl BK163), GW162.out, GE162.out, NB160_162.out, NB162_160.out, NB161_162.out, NB162_161.out, NB163_162.out, NB162_163.out, GW163.out, GE163.out, NB160_163.out, NB163_160.out, NB161_163.out, NB163_161.out, (bl)⟩)
 rintro ⟨gb162, gb163⟩ w10 ⟨hS_, h0_, h1_, h2_, h3_, h4_, h5_, h6_, h7_, h8_, h9_, h10_, h11_, h12_, h13_, h14_, h15_, h16_, h17_, h18_⟩
 have n0_ : Aside0 (w10.heap[gb160]? = some (.cells #[.int .i64 a0_0, .int .i64 a0_1, .int .i64 a0_2, .int .i64 a0_3] 35 (0, 0))) := ⟨h0_⟩
 have n1_ : Aside0 (w10.heap[gb161]? = some (.cells #[.int .i64 a1_0, .int .i64 a1_1, .int .i64 a1_2, .int .i64 a1_3] 35 (0, 0))) := ⟨h1_⟩
 have n2_ : Aside0 (w10.heap[gb162]? = some (.cells #[.int .i64 0, .int .i64 0] 33 (0, 0))) := ⟨h2_⟩
 have n3_ : Aside0 (w10.heap[gb163]? = some (.cells #[.int .i64 0, .int .i64 0] 33 (0, 0))) := ⟨h3_⟩
 have n4_ : Aside0 (w.heap.size ≤ gb162) := ⟨h4_⟩
 have n5_ : Aside0 (w.heap.size ≤ gb162) := ⟨h5_⟩
 have n6_ : Aside0 (gb160 ≠ gb162) := ⟨h6_⟩
 have n7_ : Aside0 (gb162 ≠ gb160) := ⟨h7_⟩
 have n8_ : Aside0 (gb161 ≠ gb162) := ⟨h8_⟩
 have n9_ : Aside0 (gb162 ≠ gb161) := ⟨h9_⟩
 have n10_ : Aside0 (gb163 ≠ gb162) := ⟨h10_⟩
 have n11_ : Aside0 (gb162 ≠ gb163) := ⟨h11_⟩
 have n12_ : Aside0 (w.heap.size ≤ gb163) := ⟨h12_⟩
 have n13_ : Aside0 (w.heap.size ≤ gb163) := ⟨h13_⟩
 have n14_ : Aside0 (gb160 ≠ gb163) := ⟨h14_⟩
 have n15_ : Aside0 (gb163 ≠ gb160) := ⟨h15_⟩
 have n16_ : Aside0 (gb161 ≠ gb163) := ⟨h16_⟩
 have n17_ : Aside0 (gb163 ≠ gb161) := ⟨h17_⟩
 have n18_ : Aside0 (Below w.heap.size w w10) := ⟨h18_⟩
 clear BK160 BK161 HB h0_ h1_ h2_ h3_ h4_ h5_ h6_ h7_ h8_ h9_ h10_ h11_ h12_ h13_ h14_ h15_ h16_ h17_ h18_
 have BK160 := n0_
 have BK161 := n1_
 have BK162 := n2_
 have BK163 := n3_
 have GW162 := n4_
 have GE162 := n5_
 have NB160_162 := n6_
 have NB162_160 := n7_
 have NB161_162 := n8_
 have NB162_161 := n9_
 have NB163_162 := n10_
 have NB162_163 := n11_
 have GW163 := n12_
 have GE163 := n13_
 have NB160_163 := n14_
 have NB163_160 := n15_
 have NB161_163 := n16_
 have NB163_161 := n17_
 have HB := n18_
 clear n0_ n1_ n2_ n3_ n4_ n5_ n6_ n7_ n8_ n9_ n10_ n11_ n12_ n13_ n14_ n15_ n16_ n17_ n18_
 have hHeld : w10.cell? ⟨gb160, 0, none⟩ = some (.int .i64 a0_0) ∧ w10.cell? ⟨gb160, 1, none⟩ = some (.int .i64 a0_1) ∧ w10.cell? ⟨gb160, 2, none⟩ = some (.int .i64 a0_2) ∧ w10.cell? ⟨gb160, 3, none⟩ = some (.int .i64 a0_3) := hS_
 refine norm_ (a' := ?_) ?_ ?_
 rotate_left
 ·simp only [putAll, Act.put, sA, sB, sC]
  rfl
 refine one_ (i := 6) (N := none) (ba 8 127) rfl rfl (one_of HT_.out (by kernel_rfl)) (by decide) (fun K hK => ?_)
 have hs11 : w10.cell? ⟨gb162, 0, none⟩ = some (.int .i64 0) := (kC BK162.out 0).trans rfl
 have hfs11 := kF BK162.out 0
 have hns11_0 := NB160_162.out
 have hns11_1 := NB161_162.out
 have hns11_3 := NB163_162.out
 have hms11_0 := NB162_160.out
 have hms11_1 := NB162_161.out
 have hms11_3 := NB162_163.out
 have hs12 : w10.cell? ⟨gb162, 1, none⟩ = some (.int .i64 0) := (kC BK162.out 1).trans rfl
 have hfs12 := kF BK162.out 1
 have hns12_0 := NB160_162.out
 have hns12_1 := NB161_162.out
 have hns12_3 := NB163_162.out
 have hms12_0 := NB162_160.out
 have hms12_1 := NB162_161.out
 have hms12_3 := NB162_163.out
 refine skip_ (w1 := ?_) (by rfl) rfl ?_ ?_
 rotate_left
 ·go_simp
  rfl
 refine hK.out _ _ ⟨((cell_far (p := ⟨gb162, _, none⟩) NB160_162.out _).trans (((cell_far (p := ⟨gb162, _, none⟩) NB160_162.out _).trans (hHeld.1)))), ((cell_far (p := ⟨gb162, _, none⟩) NB160_162.out _).trans (((cell_far (p := ⟨gb162, _, none⟩) NB160_162.out _).trans (hHeld.2.1)))), ((cell_far (p := ⟨gb162, _, none⟩) NB160_162.out _).trans (((cell_far (p := ⟨gb162, _, none⟩) NB160_162.out _).trans (hHeld.2.2.1)))), ((cell_far (p := ⟨gb162, _, none⟩) NB160_162.out _).trans (((cell_far (p := ⟨gb162, _, none⟩) NB160_162.out _).trans (hHeld.2.2.2))))⟩ (fun hHeld => ?_)
 clear hK K
 refine one_ (i := 7) (N := none) (ba 8 255) rfl rfl (one_of HT_.out (by kernel_rfl)) (by decide) (fun K hK => ?_)
 have hs13 : w10.cell? ⟨gb163, 0, none⟩ = some (.int .i64 0) := (kC BK163.out 0).trans rfl
 have hfs13 := kF BK163.out 0
 have hns13_0 := NB160_163.out
 have hns13_1 := NB161_163.out
 have hns13_2 := NB162_163.out
 have hms13_0 := NB163_160.out
 have hms13_1 := NB163_161.out
 have hms13_2 := NB163_162.out
 have hs14 : w10.cell? ⟨gb163, 1, none⟩ = some (.int .i64 0) := (kC BK163.out 1).trans rfl
 have hfs14 := kF BK163.out 1
 have hns14_0 := NB160_163.out
 have hns14_1 := NB161_163.out
 have hns14_2 := NB162_163.out
 have hms14_0 := NB163_160.out
 have hms14_1 := NB163_161.out
 have hms14_2 := NB163_162.out
 refine skip_ (w1 := ?_) (by rfl) rfl ?_ ?_
 rotate_left
 ·go_simp
  rfl
 refine hK.out _ _ ⟨((cell_far (p := ⟨gb163, _, none⟩) NB160_163.out _).trans (((cell_far (p := ⟨gb163, _, none⟩) NB160_163.out _).trans (hHeld.1)))), ((cell_far (p := ⟨gb163, _, none⟩) NB160_163.out _).trans (((cell_far (p := ⟨gb163, _, none⟩) NB160_163.out _).trans (hHeld.2.1)))), ((cell_far (p := ⟨gb163, _, none⟩) NB160_163.out _).trans (((cell_far (p := ⟨gb163, _, none⟩) NB160_163.out _).trans (hHeld.2.2.1)))), ((cell_far (p := ⟨gb163, _, none⟩) NB160_163.out _).trans (((cell_far (p := ⟨gb163, _, none⟩) NB160_163.out _).trans (hHeld.2.2.2))))⟩ (fun hHeld => ?_)
 clear hK K
 refine done_ (done_of HT_.out (by kernel_rfl)) ?_
 have hnb15 := NB162_160.out
 have hnc15 := NB160_162.out
 have hnb16 := NB162_161.out
 have hnc16 := NB161_162.out
 have hnb17 := NB162_163.out
 have hnc17 := NB163_162.out
 have hcz18_0 : w10.cell? ⟨gb162, 0, none⟩ = some (.int .i64 0) := (kC BK162.out 0).trans rfl
 have hcz18_1 : w10.cell? ⟨gb162, 1, none⟩ = some (.int .i64 0) := (kC BK162.out 1).trans rfl
 have hfz18_0 := kF BK162.out 0
 have hfz18_1 := kF BK162.out 1
 have hnb19 := NB161_160.out
 have hnc19 := NB160_161.out
 have hnb20 := NB161_163.out
 have hnc20 := NB163_161.out
 have hcz21_0 : w10.cell? ⟨gb161, 0, none⟩ = some (.int .i64 a1_0) := (kC BK161.out 0).trans rfl
 have hcz21_1 : w10.cell? ⟨gb161, 1, none⟩ = some (.int .i64 a1_1) := (kC BK161.out 1).trans rfl
 have hcz21_2 : w10.cell? ⟨gb161, 2, none⟩ = some (.int .i64 a1_2) := (kC BK161.out 2).trans rfl
 have hcz21_3 : w10.cell? ⟨gb161, 3, none⟩ = some (.int .i64 a1_3) := (kC BK161.out 3).trans rfl
 have hfz21_0 := kF BK161.out 0
 have hfz21_1 := kF BK161.out 1
 have hfz21_2 := kF BK161.out 2
 have hfz21_3 := kF BK161.out 3
 go_upto_if 14 with (first | ((with_reducible refine gate_callee (f := 41) rfl ?_); refine goesL_ (some 14) rfl rfl Try.func41 (by kernel_rfl) rfl #[.agg #[.int .i64 a0_0, .int .i64 a0_1], .agg #[.int .i64 a1_0, .int .i64 a1_1]] rfl (by (try simp only [List.map_toArray, List.map_cons, List.map_nil]); first | done | rfl | (simp only [List.length_drop, List.length_take]; rfl)) ?_; (with_reducible refine (grid_Less.calls a0_0 a0_1 a1_0 a1_1 t164 _ A3.out).mono ?_); rintro e w22 ⟨rfl, hb⟩; refine ⟨_, rfl, ?_⟩; replace BK160 := aM (kB (g := gb160) (o := .cells #[.int .i64 a0_0, .int .i64 a0_1, .int .i64 a0_2, .int .i64 a0_3] 35 (0, 0)) (by (with_reducible repeat (first | refine kN ?_ _ | refine kD ?_ | refine kA ?_ _)); refine blk_far ?_ NB160_163.out _; (with_reducible repeat (first | refine kN ?_ _ | refine kD ?_ | refine kA ?_ _)); refine blk_far ?_ NB160_163.out _; (with_reducible repeat (first | refine kN ?_ _ | refine kD ?_ | refine kA ?_ _)); refine blk_far ?_ NB160_162.out _; (with_reducible repeat (first | refine kN ?_ _ | refine kD ?_ | refine kA ?_ _)); refine blk_far ?_ NB160_162.out _; (with_reducible repeat (first | refine kN ?_ _ | refine kD ?_ | refine kA ?_ _)); exact BK160.out) hb); replace BK161 := aM (kB (g := gb161) (o := .cells #[.int .i64 a1_0, .int .i64 a1_1, .int .i64 a1_2, .int .i64 a1_3] 35 (0, 0)) (by (with_reducible repeat (first | refine kN ?_ _ | refine kD ?_ | refine kA ?_ _)); refine blk_far ?_ NB161_163.out _; (with_reducible repeat (first | refine kN ?_ _ | refine kD ?_ | refine kA ?_ _)); refine blk_far ?_ NB161_163.out _; (with_reducible repeat (first | refine kN ?_ _ | refine kD ?_ | refine kA ?_ _)); refine blk_far ?_ NB161_162.out _; (with_reducible repeat (first | refine kN ?_ _ | refine kD ?_ | refine kA ?_ _)); refine blk_far ?_ NB161_162.out _; (with_reducible repeat (first | refine kN ?_ _ | refine kD ?_ | refine kA ?_ _)); exact BK161.out) hb); replace BK162 := aM (kB (g := gb162) (o := .cells #[.int .i64 a0_0, .int .i64 a0_1] 33 (0, 0)) (by (with_reducible repeat (first | refine kN ?_ _ | refine kD ?_ | refine kA ?_ _)); refine blk_far ?_ NB162_163.out _; (with_reducible repeat (first | refine kN ?_ _ | refine kD ?_ | refine kA ?_ _)); refine blk_far ?_ NB162_163.out _; (with_reducible repeat (first | refine kN ?_ _ | refine kD ?_ | refine kA ?_ _)); refine kP (cs := #[.int .i64 a0_0, .int .i64 0]) ?_ 1 _ rfl; (with_reducible repeat (first | refine kN ?_ _ | refine kD ?_ | refine kA ?_ _)); refine kP (cs := #[.int .i64 0, .int .i64 0]) ?_ 0 _ rfl; (with_reducible repeat (first | refine kN ?_ _ | refine kD ?_ | refine kA ?_ _)); exact BK162.out) hb); replace BK163 := aM (kB (g := gb163) (o := .cells #[.int .i64 a0_2, .int .i64 a0_3] 33 (0, 0)) (by (with_reducible repeat (first | refine kN ?_ _ | refine kD ?_ | refine kA ?_ _)); refine kP (cs := #[.int .i64 a0_2, .int .i64 0]) ?_ 1 _ rfl; (with_reducible repeat (first | refine kN ?_ _ | refine kD ?_ | refine kA ?_ _)); refine kP (cs := #[.int .i64 0, .int .i64 0]) ?_ 0 _ rfl; (with_reducible repeat (first | refine kN ?_ _ | refine kD ?_ | refine kA ?_ _)); refine blk_far ?_ NB163_162.out _; (with_reducible repeat (first | refine kN ?_ _ | refine kD ?_ | refine kA ?_ _)); refine blk_far ?_ NB163_162.out _; (with_reducible repeat (first | refine kN ?_ _ | refine kD ?_ | refine kA ?_ _)); exact BK163.out) hb); replace HB := aM (bS (bl) hb); (try clear hb); (try clear hb2); (try clear hk); (try clear hi)))
 (try simp only [Act.put, sA, sB, sC])
 go_cut [] (fun wc => ∃ (kq : Nat) (x163000_3 : Int) (x163001_3 : Int), Aside0 (seg_flat.j0 kq a1_0 a1_1 a1_2 a1_3 x163000_3 x163001_3 a0_2 a0_3 = some r) ∧ Aside0 (kq ≤ k) ∧ Aside0 (wc.heap[gb160]? = some (.cells #[.int .i64 a0_0, .int .i64 a0_1, .int .i64 a0_2, .int .i64 a0_3] 35 (0, 0))) ∧ Aside0 (wc.heap[gb161]? = some (.cells #[.int .i64 a1_0, .int .i64 a1_1, .int .i64 a1_2, .int .i64 a1_3] 35 (0, 0))) ∧ Aside0 (wc.heap[gb162]? = some (.cells #[.int .i64 x163000_3, .int .i64 x163001_3] 33 (0, 0))) ∧ Aside0 (wc.heap[gb163]? = some (.cells #[.int .i64 a0_2, .int .i64 a0_3] 33 (0, 0))) ∧ Aside0 (Below w.heap.size w wc))
 case first =>
  have H := HC4.out
  clear HC4
  by_cases c23 : t164 = true
  ·subst c23
   have H1 : (seg_flat.j0 k a1_0 a1_1 a1_2 a1_3 a1_0 a1_1 a0_2 a0_3) = some r := by rw [if_pos rfl] at H; exact H
   clear H
   have H := H1
   clear H1
   have H' := aM H
   clear H
   have hnb24 := NB161_160.out
   have hnc24 := NB160_161.out
   have hnb25 := NB161_162.out
   have hnc25 := NB162_161.out
   have hnb26 := NB161_163.out
   have hnc26 := NB163_161.out
   have hcz27_0 : w22.cell? ⟨gb161, 0, none⟩ = some (.int .i64 a1_0) := (kC BK161.out 0).trans rfl
   have hcz27_1 : w22.cell? ⟨gb161, 1, none⟩ = some (.int .i64 a1_1) := (kC BK161.out 1).trans rfl
   have hcz27_2 : w22.cell? ⟨gb161, 2, none⟩ = some (.int .i64 a1_2) := (kC BK161.out 2).trans rfl
   have hcz27_3 : w22.cell? ⟨gb161, 3, none⟩ = some (.int .i64 a1_3) := (kC BK161.out 3).trans rfl
   have hfz27_0 := kF BK161.out 0
   have hfz27_1 := kF BK161.out 1
   have hfz27_2 := kF BK161.out 2
   have hfz27_3 := kF BK161.out 3
   have hnb28 := NB162_160.out
   have hnc28 := NB160_162.out
   have hnb29 := NB162_163.out
   have hnc29 := NB163_162.out
   have hcz30_0 : w22.cell? ⟨gb162, 0, none⟩ = some (.int .i64 a0_0) := (kC BK162.out 0).trans rfl
   have hcz30_1 : w22.cell? ⟨gb162, 1, none⟩ = some (.int .i64 a0_1) := (kC BK162.out 1).trans rfl
   have hfz30_0 := kF BK162.out 0
   have hfz30_1 := kF BK162.out 1
   go_wp2
   go_meet
   case rel => exact ⟨_, (a1_0), (a1_1), H', ⟨by first | omega | exact Nat.le_refl _⟩, ⟨by (with_reducible repeat (first | refine kN ?_ _ | refine kD ?_ | refine kA ?_ _)); refine blk_far ?_ NB160_162.out _; (with_reducible repeat (first | refine kN ?_ _ | refine kD ?_ | refine kA ?_ _)); refine blk_far ?_ NB160_162.out _; (with_reducible repeat (first | refine kN ?_ _ | refine kD ?_ | refine kA ?_ _)); exact BK160.out⟩, ⟨by (with_reducible repeat (first | refine kN ?_ _ | refine kD ?_ | refine kA ?_ _)); refine blk_far ?_ NB161_162.out _; (with_reducible repeat (first | refine kN ?_ _ | refine kD ?_ | refine kA ?_ _)); refine blk_far ?_ NB161_162.out _; (with_reducible repeat (first | refine kN ?_ _ | refine kD ?_ | refine kA ?_ _)); exact BK161.out⟩, ⟨by (with_reducible repeat (first | refine kN ?_ _ | refine kD ?_ | refine kA ?_ _)); refine kP (cs := #[.int .i64 a1_0, .int .i64 a0_1]) ?_ 1 _ rfl; (with_reducible repeat (first | refine kN ?_ _ | refine kD ?_ | refine kA ?_ _)); refine kP (cs := #[.int .i64 a0_0, .int .i64 a0_1]) ?_ 0 _ rfl; (with_reducible repeat (first | refine kN ?_ _ | refine kD ?_ | refine kA ?_ _)); exact BK162.out⟩, ⟨by (with_reducible repeat (first | refine kN ?_ _ | refine kD ?_ | refine kA ?_ _)); refine blk_far ?_ NB163_162.out _; (with_reducible repeat (first | refine kN ?_ _ | refine kD ?_ | refine kA ?_ _)); refine blk_far ?_ NB163_162.out _; (with_reducible repeat (first | refine kN ?_ _ | refine kD ?_ | refine kA ?_ _)); exact BK163.out⟩, ⟨bl⟩⟩
  ·replace c23 := Bool.eq_false_iff.mpr c23
   subst c23
   have H1 : (seg_flat.j0 k a1_0 a1_1 a1_2 a1_3 a0_0 a0_1 a0_2 a0_3) = some r := by rw [if_neg (show ¬ (false = true) by decide)] at H; exact H
   clear H
   have H := H1
   clear H1
   have H' := aM H
   clear H
   go_wp2
   go_meet
   case rel => exact ⟨_, (a0_0), (a0_1), H', ⟨by first | omega | exact Nat.le_refl _⟩, ⟨by (with_reducible repeat (first | refine kN ?_ _ | refine kD ?_ | refine kA ?_ _)); exact BK160.out⟩, ⟨by (with_reducible repeat (first | refine kN ?_ _ | refine kD ?_ | refine kA ?_ _)); exact BK161.out⟩, ⟨by (with_reducible repeat (first | refine kN ?_ _ | refine kD ?_ | refine kA ?_ _)); exact BK162.out⟩, ⟨by (with_reducible repeat (first | refine kN ?_ _ | refine kD ?_ | refine kA ?_ _)); exact BK163.out⟩, ⟨bl⟩⟩
 case rest =>
  clear HC4
  try clear c1
  try clear c2
  try clear p2
  try clear c4
  try clear c6
  try clear c15
  try clear c16
  try clear c17
  try clear c19
  try clear c20
  try clear c23
  try clear c24
  try clear c25
  try clear c26
  try clear c28
  try clear c29
  try clear hcz18_0
  try clear hcz18_1
  try clear hcz21_0
  try clear hcz21_1
  try clear hcz21_2
  try clear hcz21_3
  try clear hcz27_0
  try clear hcz27_1
  try clear hcz27_2
  try clear hcz27_3
  try clear hcz30_0
  try clear hcz30_1
  try clear hfz18_0
  try clear hfz18_1
  try clear hfz21_0
  try clear hfz21_1
  try clear hfz21_2
  try clear hfz21_3
  try clear hfz27_0
  try clear hfz27_1
  try clear hfz27_2
  try clear hfz27_3
  try clear hfz30_0
  try clear hfz30_1
  obtain ⟨kq, x163000_3, x163001_3, HA, HJ3, BK160, BK161, BK162, BK163, HB⟩ := hcut
  cases kq with
  | zero => exact absurd HA.out (by simp [seg_flat.j0])
  | succ kj3 =>
   have H := HA.out
   clear HA
   simp only [seg_flat.j0] at H
   replace H := Option.bind_eq_some_iff.mp H
   obtain ⟨t165, A310, H⟩ := H
   try dsimp only at H
   have A31 := aM A310
   clear A310
   have HC32 := aM H
   clear H
   have hnb33 := NB161_160.out
   have hnc33 := NB160_161.out
   have hnb34 := NB161_162.out
   have hnc34 := NB162_161.out
   have hnb35 := NB161_163.out
   have hnc35 := NB163_161.out
   have hcz36_0 : wc.cell? ⟨gb161, 0, none⟩ = some (.int .i64 a1_0) := (kC BK161.out 0).trans rfl
   have hcz36_1 : wc.cell? ⟨gb161, 1, none⟩ = some (.int .i64 a1_1) := (kC BK161.out 1).trans rfl
   have hcz36_2 : wc.cell? ⟨gb161, 2, none⟩ = some (.int .i64 a1_2) := (kC BK161.out 2).trans rfl
   have hcz36_3 : wc.cell? ⟨gb161, 3, none⟩ = some (.int .i64 a1_3) := (kC BK161.out 3).trans rfl
   have hfz36_0 := kF BK161.out 0
   have hfz36_1 := kF BK161.out 1
   have hfz36_2 := kF BK161.out 2
   have hfz36_3 := kF BK161.out 3
   have hnb37 := NB163_160.out
   have hnc37 := NB160_163.out
   have hnb38 := NB163_162.out
   have hnc38 := NB162_163.out
   have hcz39_0 : wc.cell? ⟨gb163, 0, none⟩ = some (.int .i64 a0_2) := (kC BK163.out 0).trans rfl
   have hcz39_1 : wc.cell? ⟨gb163, 1, none⟩ = some (.int .i64 a0_3) := (kC BK163.out 1).trans rfl
   have hfz39_0 := kF BK163.out 0
   have hfz39_1 := kF BK163.out 1
   go_upto_if 20 with (first | ((with_reducible refine gate_callee (f := 41) rfl ?_); refine goesL_ (some 20) rfl rfl Try.func41 (by kernel_rfl) rfl #[.agg #[.int .i64 a1_2, .int .i64 a1_3], .agg #[.int .i64 a0_2, .int .i64 a0_3]] rfl (by (try simp only [List.map_toArray, List.map_cons, List.map_nil]); first | done | rfl | (simp only [List.length_drop, List.length_take]; rfl)) ?_; (with_reducible refine (grid_Less.calls a1_2 a1_3 a0_2 a0_3 t165 _ A31.out).mono ?_); rintro e w40 ⟨rfl, hb⟩; refine ⟨_, rfl, ?_⟩; replace BK160 := aM (kB (g := gb160) (o := .cells #[.int .i64 a0_0, .int .i64 a0_1, .int .i64 a0_2, .int .i64 a0_3] 35 (0, 0)) (kl BK160) hb); replace BK161 := aM (kB (g := gb161) (o := .cells #[.int .i64 a1_0, .int .i64 a1_1, .int .i64 a1_2, .int .i64 a1_3] 35 (0, 0)) (kl BK161) hb); replace BK162 := aM (kB (g := gb162) (o := .cells #[.int .i64 x163000_3, .int .i64 x163001_3] 33 (0, 0)) (kl BK162) hb); replace BK163 := aM (kB (g := gb163) (o := .cells #[.int .i64 a0_2, .int .i64 a0_3] 33 (0, 0)) (kl BK163) hb); replace HB := aM (bS (bl) hb); (try clear hb); (try clear hb2); (try clear hk); (try clear hi)))
   (try simp only [Act.put, sA, sB, sC])
   go_cut [] (fun wc => ∃ (kq : Nat) (x164000_31 : Int) (x164001_31 : Int), Aside0 (seg_flat.j1 kq x163000_3 x163001_3 x164000_31 x164001_31 = some r) ∧ Aside0 (kq ≤ kj3) ∧ Aside0 (wc.heap[gb160]? = some (.cells #[.int .i64 a0_0, .int .i64 a0_1, .int .i64 a0_2, .int .i64 a0_3] 35 (0, 0))) ∧ Aside0 (wc.heap[gb161]? = some (.cells #[.int .i64 a1_0, .int .i64 a1_1, .int .i64 a1_2, .int .i64 a1_3] 35 (0, 0))) ∧ Aside0 (wc.heap[gb162]? = some (.cells #[.int .i64 x163000_3, .int .i64 x163001_3] 33 (0, 0))) ∧ Aside0 (wc.heap[gb163]? = some (.cells #[.int .i64 x164000_31, .int .i64 x164001_31] 33 (0, 0))) ∧ Aside0 (Below w.heap.size w wc))
   case first =>
    have H := HC32.out
    clear HC32
    by_cases c41 : t165 = true
    ·subst c41
     have H1 : (seg_flat.j1 kj3 x163000_3 x163001_3 a1_2 a1_3) = some r := by rw [if_pos rfl] at H; exact H
     clear H
     have H := H1
     clear H1
     have H' := aM H
     clear H
     have hnb42 := NB161_160.out
     have hnc42 := NB160_161.out
     have hnb43 := NB161_162.out
     have hnc43 := NB162_161.out
     have hnb44 := NB161_163.out
     have hnc44 := NB163_161.out
     have hcz45_0 : w40.cell? ⟨gb161, 0, none⟩ = some (.int .i64 a1_0) := (kC BK161.out 0).trans rfl
     have hcz45_1 : w40.cell? ⟨gb161, 1, none⟩ = some (.int .i64 a1_1) := (kC BK161.out 1).trans rfl
     have hcz45_2 : w40.cell? ⟨gb161, 2, none⟩ = some (.int .i64 a1_2) := (kC BK161.out 2).trans rfl
     have hcz45_3 : w40.cell? ⟨gb161, 3, none⟩ = some (.int .i64 a1_3) := (kC BK161.out 3).trans rfl
     have hfz45_0 := kF BK161.out 0
     have hfz45_1 := kF BK161.out 1
     have hfz45_2 := kF BK161.out 2
     have hfz45_3 := kF BK161.out 3
     have hnb46 := NB163_160.out
     have hnc46 := NB160_163.out
     have hnb47 := NB163_162.out
     have hnc47 := NB162_163.out
     have hcz48_0 : w40.cell? ⟨gb163, 0, none⟩ = some (.int .i64 a0_2) := (kC BK163.out 0).trans rfl
     have hcz48_1 : w40.cell? ⟨gb163, 1, none⟩ = some (.int .i64 a0_3) := (kC BK163.out 1).trans rfl
     have hfz48_0 := kF BK163.out 0
     have hfz48_1 := kF BK163.out 1
     go_wp2
     go_meet
     case rel => exact ⟨_, (a1_2), (a1_3), H', ⟨by have := HJ3.out; first | omega | exact Nat.le_refl _⟩, ⟨by (with_reducible repeat (first | refine kN ?_ _ | refine kD ?_ | refine kA ?_ _)); refine blk_far ?_ NB160_163.out _; (with_reducible repeat (first | refine kN ?_ _ | refine kD ?_ | refine kA ?_ _)); refine blk_far ?_ NB160_163.out _; (with_reducible repeat (first | refine kN ?_ _ | refine kD ?_ | refine kA ?_ _)); exact BK160.out⟩, ⟨by (with_reducible repeat (first | refine kN ?_ _ | refine kD ?_ | refine kA ?_ _)); refine blk_far ?_ NB161_163.out _; (with_reducible repeat (first | refine kN ?_ _ | refine kD ?_ | refine kA ?_ _)); refine blk_far ?_ NB161_163.out _; (with_reducible repeat (first | refine kN ?_ _ | refine kD ?_ | refine kA ?_ _)); exact BK161.out⟩, ⟨by (with_reducible repeat (first | refine kN ?_ _ | refine kD ?_ | refine kA ?_ _)); refine blk_far ?_ NB162_163.out _; (with_reducible repeat (first | refine kN ?_ _ | refine kD ?_ | refine kA ?_ _)); refine blk_far ?_ NB162_163.out _; (with_reducible repeat (first | refine kN ?_ _ | refine kD ?_ | refine kA ?_ _)); exact BK162.out⟩, ⟨by (with_reducible repeat (first | refine kN ?_ _ | refine kD ?_ | refine kA ?_ _)); refine kP (cs := #[.int .i64 a1_2, .int .i64 a0_3]) ?_ 1 _ rfl; (with_reducible repeat (first | refine kN ?_ _ | refine kD ?_ | refine kA ?_ _)); refine kP (cs := #[.int .i64 a0_2, .int .i64 a0_3]) ?_ 0 _ rfl; (with_reducible repeat (first | refine kN ?_ _ | refine kD ?_ | refine kA ?_ _)); exact BK163.out⟩, ⟨bl⟩⟩
    ·replace c41 := Bool.eq_false_iff.mpr c41
     subst c41
     have H1 : (seg_flat.j1 kj3 x163000_3 x163001_3 a0_2 a0_3) = some r := by rw [if_neg (show ¬ (false = true) by decide)] at H; exact H
     clear H
     have H := H1
     clear H1
     have H' := aM H
     clear H
     go_wp2
     go_meet
     case rel => exact ⟨_, (a0_2), (a0_3), H', ⟨by have := HJ3.out; first | omega | exact Nat.le_refl _⟩, ⟨by (with_reducible repeat (first | refine kN ?_ _ | refine kD ?_ | refine kA ?_ _)); exact BK160.out⟩, ⟨by (with_reducible repeat (first | refine kN ?_ _ | refine kD ?_ | refine kA ?_ _)); exact BK161.out⟩, ⟨by (with_reducible repeat (first | refine kN ?_ _ | refine kD ?_ | refine kA ?_ _)); exact BK162.out⟩, ⟨by (with_reducible repeat (first | refine kN ?_ _ | refine kD ?_ | refine kA ?_ _)); exact BK163.out⟩, ⟨bl⟩⟩
   case rest =>
    clear HC32
    try clear c1
    try clear c2
    try clear p2
    try clear c3
    try clear c4
    try clear c6
    try clear c15
    try clear c16
    try clear c17
    try clear c19
    try clear c20
    try clear c23
    try clear c24
    try clear c25
    try clear c26
    try clear c28
    try clear c29
    try clear c33
    try clear c34
    try clear c35
    try clear c37
    try clear c38
    try clear c41
    try clear c42
    try clear c43
    try clear c44
    try clear c46
    try clear c47
    try clear hcz18_0
    try clear hcz18_1
    try clear hcz21_0
    try clear hcz21_1
    try clear hcz21_2
    try clear hcz21_3
    try clear hcz27_0
    try clear hcz27_1
    try clear hcz27_2
    try clear hcz27_3
    try clear hcz30_0
    try clear hcz30_1
    try clear hcz36_0
    try clear hcz36_1
    try clear hcz36_2
    try clear hcz36_3
    try clear hcz39_0
    try clear hcz39_1
    try clear hcz45_0
    try clear hcz45_1
    try clear hcz45_2
    try clear hcz45_3
    try clear hcz48_0
    try clear hcz48_1
    try clear hfz18_0
    try clear hfz18_1
    try clear hfz21_0
    try clear hfz21_1
    try clear hfz21_2
    try clear hfz21_3
    try clear hfz27_0
    try clear hfz27_1
    try clear hfz27_2
    try clear hfz27_3
    try clear hfz30_0
    try clear hfz30_1
    try clear hfz36_0
    try clear hfz36_1
    try clear hfz36_2
    try clear hfz36_3
    try clear hfz39_0
    try clear hfz39_1
    try clear hfz45_0
    try clear hfz45_1
    try clear hfz45_2
    try clear hfz45_3
    try clear hfz48_0
    try clear hfz48_1
    try clear p2
    obtain ⟨kq, x164000_31, x164001_31, HA, HJ31, BK160, BK161, BK162, BK163, HB⟩ := hcut
    cases kq with
    | zero => exact absurd HA.out (by simp [seg_flat.j1])
    | succ kj31 =>
     have H := HA.out
     clear HA
     simp only [seg_flat.j1] at H
     replace H := Option.bind_eq_some_iff.mp H
     obtain ⟨t166, A490, H⟩ := H
     try dsimp only at H
     have A49 := aM A490
     clear A490
     by_cases c50 : t166 = true
     ·subst c50
      have H1 : (some 3) = some r := by rw [if_pos rfl] at H; exact H
      clear H
      have H := H1
      clear H1
      obtain rfl := Option.some.inj H
      have hnb51 := NB162_160.out
      have hnc51 := NB160_162.out
      have hnb52 := NB162_161.out
      have hnc52 := NB161_162.out
      have hnb53 := NB162_163.out
      have hnc53 := NB163_162.out
      have hcz54_0 : wc.cell? ⟨gb162, 0, none⟩ = some (.int .i64 x163000_3) := (kC BK162.out 0).trans rfl
      have hcz54_1 : wc.cell? ⟨gb162, 1, none⟩ = some (.int .i64 x163001_3) := (kC BK162.out 1).trans rfl
      have hfz54_0 := kF BK162.out 0
      have hfz54_1 := kF BK162.out 1
      have hnb55 := NB163_160.out
      have hnc55 := NB160_163.out
      have hnb56 := NB163_161.out
      have hnc56 := NB161_163.out
      have hcz57_0 : wc.cell? ⟨gb163, 0, none⟩ = some (.int .i64 x164000_31) := (kC BK163.out 0).trans rfl
      have hcz57_1 : wc.cell? ⟨gb163, 1, none⟩ = some (.int .i64 x164001_31) := (kC BK163.out 1).trans rfl
      have hfz57_0 := kF BK163.out 0
      have hfz57_1 := kF BK163.out 1
      go_wp2_with (first | ((with_reducible refine gate_callee (f := 41) rfl ?_); refine goesL_ (some 26) rfl rfl Try.func41 (by kernel_rfl) rfl #[.agg #[.int .i64 x163000_3, .int .i64 x163001_3], .agg #[.int .i64 x164000_31, .int .i64 x164001_31]] rfl (by (try simp only [List.map_toArray, List.map_cons, List.map_nil]); first | done | rfl | (simp only [List.length_drop, List.length_take]; rfl)) ?_; (with_reducible refine (grid_Less.calls x163000_3 x163001_3 x164000_31 x164001_31 true _ A49.out).mono ?_); rintro e w58 ⟨rfl, hb⟩; refine ⟨_, rfl, ?_⟩; replace BK160 := aM (kB (g := gb160) (o := .cells #[.int .i64 a0_0, .int .i64 a0_1, .int .i64 a0_2, .int .i64 a0_3] 35 (0, 0)) (kl BK160) hb); replace BK161 := aM (kB (g := gb161) (o := .cells #[.int .i64 a1_0, .int .i64 a1_1, .int .i64 a1_2, .int .i64 a1_3] 35 (0, 0)) (kl BK161) hb); replace BK162 := aM (kB (g := gb162) (o := .cells #[.int .i64 x163000_3, .int .i64 x163001_3] 33 (0, 0)) (kl BK162) hb); replace BK163 := aM (kB (g := gb163) (o := .cells #[.int .i64 x164000_31, .int .i64 x164001_31] 33 (0, 0)) (kl BK163) hb); replace HB := aM (bS (bl) hb); (try clear hb); (try clear hb2); (try clear hk); (try clear hi)))
      go_ret
      exact ⟨by first | rfl | (simp [errW_none, errW_some] <;> rfl) | (simp [*, errW_none, errW_some] <;> rfl), bl⟩
     ·replace c50 := Bool.eq_false_iff.mpr c50
      subst c50
      have H1 : (if (x163000_3 == x164000_31 && (x163001_3 == x164001_31)) = true then (some 1) else (some 0)) = some r := by rw [if_neg (show ¬ (false = true) by decide)] at H; exact H
      clear H
      have H := H1
      clear H1
      by_cases c59 : (x163000_3 == x164000_31 && (x163001_3 == x164001_31)) = true
      ·rw [if_pos c59] at H
       have c59b0 : (x163000_3 == x164000_31 && (x163001_3 == x164001_31)) = true := c59
       (try (have c59b1 : decide (x163000_3 = x164000_31 && (x163001_3 == x164001_31)) = true := by simpa using c59))
       (try (have c59b2 : (x163000_3 == x164000_31 && (x163001_3 == x164001_31)) = true := by simpa using c59))
       clear c59
       obtain rfl := Option.some.inj H
       have hnb60 := NB162_160.out
       have hnc60 := NB160_162.out
       have hnb61 := NB162_161.out
       have hnc61 := NB161_162.out
       have hnb62 := NB162_163.out
       have hnc62 := NB163_162.out
       have hcz63_0 : wc.cell? ⟨gb162, 0, none⟩ = some (.int .i64 x163000_3) := (kC BK162.out 0).trans rfl
       have hcz63_1 : wc.cell? ⟨gb162, 1, none⟩ = some (.int .i64 x163001_3) := (kC BK162.out 1).trans rfl
       have hfz63_0 := kF BK162.out 0
       have hfz63_1 := kF BK162.out 1
       have hnb64 := NB163_160.out
       have hnc64 := NB160_163.out
       have hnb65 := NB163_161.out
       have hnc65 := NB161_163.out
       have hcz66_0 : wc.cell? ⟨gb163, 0, none⟩ = some (.int .i64 x164000_31) := (kC BK163.out 0).trans rfl
       have hcz66_1 : wc.cell? ⟨gb163, 1, none⟩ = some (.int .i64 x164001_31) := (kC BK163.out 1).trans rfl
       have hfz66_0 := kF BK163.out 0
       have hfz66_1 := kF BK163.out 1
       go_wp2_with (first | ((with_reducible refine gate_callee (f := 41) rfl ?_); refine goesL_ (some 26) rfl rfl Try.func41 (by kernel_rfl) rfl #[.agg #[.int .i64 x163000_3, .int .i64 x163001_3], .agg #[.int .i64 x164000_31, .int .i64 x164001_31]] rfl (by (try simp only [List.map_toArray, List.map_cons, List.map_nil]); first | done | rfl | (simp only [List.length_drop, List.length_take]; rfl)) ?_; (with_reducible refine (grid_Less.calls x163000_3 x163001_3 x164000_31 x164001_31 false _ A49.out).mono ?_); rintro e w67 ⟨rfl, hb⟩; refine ⟨_, rfl, ?_⟩; replace BK160 := aM (kB (g := gb160) (o := .cells #[.int .i64 a0_0, .int .i64 a0_1, .int .i64 a0_2, .int .i64 a0_3] 35 (0, 0)) (kl BK160) hb); replace BK161 := aM (kB (g := gb161) (o := .cells #[.int .i64 a1_0, .int .i64 a1_1, .int .i64 a1_2, .int .i64 a1_3] 35 (0, 0)) (kl BK161) hb); replace BK162 := aM (kB (g := gb162) (o := .cells #[.int .i64 x163000_3, .int .i64 x163001_3] 33 (0, 0)) (kl BK162) hb); replace BK163 := aM (kB (g := gb163) (o := .cells #[.int .i64 x164000_31, .int .i64 x164001_31] 33 (0, 0)) (kl BK163) hb); replace HB := aM (bS (bl) hb); (try clear hb); (try clear hb2); (try clear hk); (try clear hi); have hcz68_0 : w67.cell? ⟨gb162, 0, none⟩ = some (.int .i64 x163000_3) := (kC BK162.out 0).trans rfl; have hcz68_1 : w67.cell? ⟨gb162, 1, none⟩ = some (.int .i64 x163001_3) := (kC BK162.out 1).trans rfl; have hfz68_0 := kF BK162.out 0; have hfz68_1 := kF BK162.out 1; have hcz69_0 : w67.cell? ⟨gb163, 0, none⟩ = some (.int .i64 x164000_31) := (kC BK163.out 0).trans rfl; have hcz69_1 : w67.cell? ⟨gb163, 1, none⟩ = some (.int .i64 x164001_31) := (kC BK163.out 1).trans rfl; have hfz69_0 := kF BK163.out 0; have hfz69_1 := kF BK163.out 1))
       go_ret
       exact ⟨by first | rfl | (simp [errW_none, errW_some] <;> rfl) | (simp [*, errW_none, errW_some] <;> rfl), bl⟩
      ·rw [if_neg c59] at H
       have c59b0 : (x163000_3 == x164000_31 && (x163001_3 == x164001_31)) = false := by simpa using c59
       (try (have c59b1 : decide (x163000_3 = x164000_31 && (x163001_3 == x164001_31)) = false := by simpa using c59))
       (try (have c59b2 : (x163000_3 == x164000_31 && (x163001_3 == x164001_31)) = false := by simpa using c59))
       (try (have c59b3 : ¬ (x163000_3 = x164000_31 && (x163001_3 == x164001_31)) := by simpa using c59))
       clear c59
       obtain rfl := Option.some.inj H
       have hnb70 := NB162_160.out
       have hnc70 := NB160_162.out
       have hnb71 := NB162_161.out
       have hnc71 := NB161_162.out
       have hnb72 := NB162_163.out
       have hnc72 := NB163_162.out
       have hcz73_0 : wc.cell? ⟨gb162, 0, none⟩ = some (.int .i64 x163000_3) := (kC BK162.out 0).trans rfl
       have hcz73_1 : wc.cell? ⟨gb162, 1, none⟩ = some (.int .i64 x163001_3) := (kC BK162.out 1).trans rfl
       have hfz73_0 := kF BK162.out 0
       have hfz73_1 := kF BK162.out 1
       have hnb74 := NB163_160.out
       have hnc74 := NB160_163.out
       have hnb75 := NB163_161.out
       have hnc75 := NB161_163.out
       have hcz76_0 : wc.cell? ⟨gb163, 0, none⟩ = some (.int .i64 x164000_31) := (kC BK163.out 0).trans rfl
       have hcz76_1 : wc.cell? ⟨gb163, 1, none⟩ = some (.int .i64 x164001_31) := (kC BK163.out 1).trans rfl
       have hfz76_0 := kF BK163.out 0
       have hfz76_1 := kF BK163.out 1
       go_wp2_with (first | ((with_reducible refine gate_callee (f := 41) rfl ?_); refine goesL_ (some 26) rfl rfl Try.func41 (by kernel_rfl) rfl #[.agg #[.int .i64 x163000_3, .int .i64 x163001_3], .agg #[.int .i64 x164000_31, .int .i64 x164001_31]] rfl (by (try simp only [List.map_toArray, List.map_cons, List.map_nil]); first | done | rfl | (simp only [List.length_drop, List.length_take]; rfl)) ?_; (with_reducible refine (grid_Less.calls x163000_3 x163001_3 x164000_31 x164001_31 false _ A49.out).mono ?_); rintro e w77 ⟨rfl, hb⟩; refine ⟨_, rfl, ?_⟩; replace BK160 := aM (kB (g := gb160) (o := .cells #[.int .i64 a0_0, .int .i64 a0_1, .int .i64 a0_2, .int .i64 a0_3] 35 (0, 0)) (kl BK160) hb); replace BK161 := aM (kB (g := gb161) (o := .cells #[.int .i64 a1_0, .int .i64 a1_1, .int .i64 a1_2, .int .i64 a1_3] 35 (0, 0)) (kl BK161) hb); replace BK162 := aM (kB (g := gb162) (o := .cells #[.int .i64 x163000_3, .int .i64 x163001_3] 33 (0, 0)) (kl BK162) hb); replace BK163 := aM (kB (g := gb163) (o := .cells #[.int .i64 x164000_31, .int .i64 x164001_31] 33 (0, 0)) (kl BK163) hb); replace HB := aM (bS (bl) hb); (try clear hb); (try clear hb2); (try clear hk); (try clear hi); have hcz78_0 : w77.cell? ⟨gb162, 0, none⟩ = some (.int .i64 x163000_3) := (kC BK162.out 0).trans rfl; have hcz78_1 : w77.cell? ⟨gb162, 1, none⟩ = some (.int .i64 x163001_3) := (kC BK162.out 1).trans rfl; have hfz78_0 := kF BK162.out 0; have hfz78_1 := kF BK162.out 1; have hcz79_0 : w77.cell? ⟨gb163, 0, none⟩ = some (.int .i64 x164000_31) := (kC BK163.out 0).trans rfl; have hcz79_1 : w77.cell? ⟨gb163, 1, none⟩ = some (.int .i64 x164001_31) := (kC BK163.out 1).trans rfl; have hfz79_0 := kF BK163.out 0; have hfz79_1 := kF BK163.out 1))
       go_ret
       exact ⟨by first | rfl | (simp [errW_none, errW_some] <;> rfl) | (simp [*, errW_none, errW_some] <;> rfl), bl⟩
end Go.Proofs.Ytmejeiddlhjjmaa.PNodingClean
