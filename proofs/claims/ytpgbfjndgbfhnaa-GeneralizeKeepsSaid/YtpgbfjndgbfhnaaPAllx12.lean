-- out of a driver of this session's prover over the kit's print: Lean checks it
import Derived.Test.YtpgbfjndgbfhnaaPAllx0
import Derived.Test.YtpgbfjndgbfhnaaPAllx3
import Derived.Test.YtpgbfjndgbfhnaaPAllx11
namespace Go.Proofs.Ytpgbfjndgbfhnaa.PAll
open Go.Proofs.YtpgbfjndgbfhnaaG Go.Shelf Go.Lib
open Go.RowKit Go.Proofs.YtpgbfjndgbfhnaaW.PrintWords Go.Proofs.YtpgbfjndgbfhnaaW.PrintLast Go.Proofs.YtpgbfjndgbfhnaaW.PrintMore
attribute [local go_sem] max2_int min2_int max_two min_two max_three min_three max_four min_four   -- for this text's walks alone
set_option linter.unusedVariables false
set_option linter.unusedSimpArgs false
def mapmakerref26_with.l0 : Nat → List (S40) → List (S40) → Bool → Int → Int → Int → Option ((List (S40)))
 | 0, _, _, _, _, _, _ => none
 | k + 1, x0, x5, x6, x7, x190000, x190001 => if x7 < (x0.length : Int) then (if x6 = true then (if 0 ≤ x7 then (if x5.length < 8796093022208 then (mapmakerref26_with.l0 k x0 (x5 ++ [(⟨(rd_T40 x0 x7).f0, (rd_T40 x0 x7).f1⟩ : S40)]) x6 (wrap64 (x7 + 1)) x190000 x190001) else (none)) else (none)) else (if 0 ≤ x7 then ((mapmakerref08_Less.f x190000 x190001 ((rd_T40 x0 x7).f0) ((rd_T40 x0 x7).f1)).bind fun t196 => (if t196 = true then (if x5.length < 8796093022208 then ((some (x5 ++ [(⟨x190000, x190001⟩ : S40)] : List (S40))).bind fun y197 => (if y197.length < 8796093022208 then (mapmakerref26_with.l0 k x0 (y197 ++ [(⟨(rd_T40 x0 x7).f0, (rd_T40 x0 x7).f1⟩ : S40)]) true (wrap64 (x7 + 1)) x190000 x190001) else (none))) else (none)) else (if x5.length < 8796093022208 then (mapmakerref26_with.l0 k x0 (x5 ++ [(⟨(rd_T40 x0 x7).f0, (rd_T40 x0 x7).f1⟩ : S40)]) x6 (wrap64 (x7 + 1)) x190000 x190001) else (none)))) else (none))) else (if x6 = true then (some x5) else (if x5.length < 8796093022208 then (some (x5 ++ [(⟨x190000, x190001⟩ : S40)])) else (none)))
def mapmakerref26_with.f (k : Nat) (l0 : List (S40)) (a1_0 : Int) (a1_1 : Int) : Option ((List (S40))) := (mapmakerref26_Has.f k l0 a1_0 a1_1).bind fun t190 => (mapmakerref26_with.l0 k l0 ([] : List (S40)) t190 0 a1_0 a1_1)
theorem mapmakerref26_with.mono_l : ∀ k, (∀ y0 y1 y2 y3 y4 y5, LeO (mapmakerref26_with.l0 k y0 y1 y2 y3 y4 y5) (mapmakerref26_with.l0 (k + 1) y0 y1 y2 y3 y4 y5))
 | 0 => fun _ _ _ _ _ _ r h => by simp [mapmakerref26_with.l0] at h
 | k + 1 => by
  have ih0 := mapmakerref26_with.mono_l k
  ·intro y0 y1 y2 y3 y4 y5
   unfold mapmakerref26_with.l0
   repeat' first
   | (with_reducible exact ih0 _ _ _ _ _ _)
   | (with_reducible exact mapmakerref26_Has.mono _ _ _ _)
   | (with_reducible exact LeO.refl _)
   | (with_reducible exact LeO.none _)
   | (with_reducible refine LeO.ite ?_ ?_)
   | (with_reducible refine LeO.bind ?_ (fun _ => ?_))
   | exact ih0 _ _ _ _ _ _
   | exact mapmakerref26_Has.mono _ _ _ _
   | exact LeO.none _
   | refine LeO.ite ?_ ?_
   | refine LeO.bind ?_ (fun _ => ?_)
theorem mapmakerref26_with.mono : ∀ a0 a1 a2 k, LeO (mapmakerref26_with.f k a0 a1 a2) (mapmakerref26_with.f (k + 1) a0 a1 a2) := by
 intro a0 a1 a2 k
 have ih0 := mapmakerref26_with.mono_l k
 unfold mapmakerref26_with.f
 repeat' first
   | (with_reducible exact ih0 _ _ _ _ _ _)
   | (with_reducible exact mapmakerref26_Has.mono _ _ _ _)
   | (with_reducible exact LeO.refl _)
   | (with_reducible exact LeO.none _)
   | (with_reducible refine LeO.ite ?_ ?_)
   | (with_reducible refine LeO.bind ?_ (fun _ => ?_))
   | exact ih0 _ _ _ _ _ _
   | exact mapmakerref26_Has.mono _ _ _ _
   | exact LeO.none _
   | refine LeO.ite ?_ ?_
   | refine LeO.bind ?_ (fun _ => ?_)
def mapmakerref26_with.T6 : Bool × List (List Nat × List Nat) := (true, [([], []), ([0], [0]), ([1], [1]), ([2], [2]), ([2], [2]), ([2], [2]), ([4, 5, 2], [2, 4, 5]), ([6, 2], [2, 6]), ([3, 7, 2, 2], [2, 3, 7]), ([2, 8], [2, 8])])
def mapmakerref26_with.B6 : List Nat := [0, 1, 3, 7, 7, 7, 55, 119, 255, 511]
theorem mapmakerref26_with.tab6 : rtab .any (opsOf Try.f29 6) = mapmakerref26_with.T6 := by kernel_rfl
theorem mapmakerref26_with.bits6 : waitsOk mapmakerref26_with.T6.2 mapmakerref26_with.B6 = true := by kernel_rfl
set_option maxHeartbeats 8000000 in
set_option maxRecDepth 100000 in
theorem mapmakerref26_with.calls (k : Nat) (A0 : Option Addr) (c0 : Nat) (l0 : List (S40)) (a1_0 : Int) (a1_1 : Int) (r : List (S40)) (w : World) (hr0 : Kd.C k40 w A0 l0.length l0) (hc0 : l0.length ≤ c0) (h : mapmakerref26_with.f k l0 a1_0 a1_1 = some r) :
  Calls Try.prog 29 #[.slice A0 l0.length c0, .agg #[.int .i64 a1_0, .int .i64 a1_1]] w fun e w' => ∃ v0_ : Value, e = .returned (v0_) ∧ Kd.R k40 40 w' w.heap.size (fun _ => True) v0_ r ∧ Below w.heap.size w w' := by
 have hu40 := Try.underlying40
 have HR0 := aM hr0
 have HC0 := aM hc0
 clear hr0 hc0
 have HB := aM (Below.refl w.heap.size w)
 have H : ((mapmakerref26_Has.f k l0 a1_0 a1_1).bind fun t190 => (mapmakerref26_with.l0 k l0 ([] : List (S40)) t190 0 a1_0 a1_1)) = some r := h
 clear h
 replace H := Option.bind_eq_some_iff.mp H
 obtain ⟨t190, A30, H⟩ := H
 try dsimp only at H
 have A3 := aM A30
 clear A30
 have H' := aM H
 clear H
 go_enter Try.func29, Try.ntmps29
 go_wp2_with (first | ((with_reducible refine gate_dst (N := 3) rfl ?_); refine box_event ?hg (N := 3) ?hd (cs := #[.int .i64 a1_0, .int .i64 a1_1]) (t := 40) ?hr ?_; (case hd => rfl); (case hg => rfl); (case hr => first | (go_simp; done) | (go_simp; rfl)); intro gb189 hg w4 hbox hb; have n0_ := aM (bS (bl) hb); have n1_ := aM (hbox); have n2_ := aM ((by rw [hg]; exact (below_size (bl)) : w.heap.size ≤ gb189)); have n3_ := aM ((by rw [hg]; exact (below_size (bl)) : w.heap.size ≤ gb189)); clear HB; have HB := n0_; have BK189 := n1_; have GW189 := n2_; have GE189 := n3_; clear n0_ n1_ n2_ n3_ hb hbox hg; have hcz5_0 : w4.cell? ⟨gb189, 0, none⟩ = some (.int .i64 a1_0) := (kC BK189.out 0).trans rfl; have hcz5_1 : w4.cell? ⟨gb189, 1, none⟩ = some (.int .i64 a1_1) := (kC BK189.out 1).trans rfl; have hfz5_0 := kF BK189.out 0; have hfz5_1 := kF BK189.out 1) | ((with_reducible refine gate_callee (f := 19) rfl ?_); refine goesL_ (some 10) rfl rfl Try.func19 (by kernel_rfl) rfl #[.slice A0 l0.length c0, .agg #[.int .i64 a1_0, .int .i64 a1_1]] rfl (by (try simp only [List.map_toArray, List.map_cons, List.map_nil]); first | done | rfl | (simp only [List.length_drop, List.length_take]; rfl)) ?_; (with_reducible refine (mapmakerref26_Has.calls k _ _ l0 a1_0 a1_1 t190 _ ?side1 ?side2 A3.out).mono ?_); (case side1 => repeat (first | exact (Kd.C_below HR0.out HB.out) | (with_reducible refine cA ?_ _) | (with_reducible refine cN ?_ _) | (with_reducible refine cD ?_))); (case side2 => exact HC0.out); rintro e w6 ⟨rfl, hb⟩; refine ⟨_, rfl, ?_⟩; have n0_ := aM (kB (g := gb189) (o := .cells #[.int .i64 a1_0, .int .i64 a1_1] 40 (0, 0)) (kl BK189) hb); have n1_ := aM (bS (bl) hb); clear BK189 HB; have BK189 := n0_; have HB := n1_; clear n0_ n1_; (try clear hb); (try clear hb2); (try clear hk); (try clear hi)))
 go_loopg [5, 6, 7] k (fun kq v5 v6 v7 w' => ∃ (x5_1 : List (S40)) (x6_1 : Bool) (x7_1 : Int), v6 = .bool x6_1 ∧ v7 = .int .i64 x7_1 ∧ Aside0 (mapmakerref26_with.l0 kq l0 x5_1 x6_1 x7_1 a1_0 a1_1 = some r) ∧ Aside0 (kq ≤ k) ∧ Aside0 (Kd.R k40 40 w' w.heap.size (fun k_ => k_ ≠ gb189) v5 x5_1) ∧ Aside0 (w'.heap[gb189]? = some (.cells #[.int .i64 a1_0, .int .i64 a1_1] 40 (0, 0))) ∧ Aside0 (Below w.heap.size w w'))
 case atStart => exact ⟨(([] : List (S40))), (t190), (0), (by first | rfl | (simp; done) | (simp [*]; done)), (by first | rfl | (simp; done) | (simp [*]; done)), H', ⟨Nat.le_refl _⟩, ⟨by first | exact Kd.R_nil _ _ _ _ _ | exact Kd.N_nil _ _ _ _ _ | exact Kd.V_nil _ _ _ _ _ | exact Kd.Q_nil _ _ _ _ _ | exact Kd.S_nil _ _ _ _ _⟩, ⟨by (with_reducible repeat (first | refine kN ?_ _ | refine kD ?_ | refine kA ?_ _)); exact BK189.out⟩, ⟨bl⟩⟩
 case round =>
  clear H'
  try clear c1
  try clear c2
  try clear p2
  try clear hcz5_0
  try clear hcz5_1
  try clear hfz5_0
  try clear hfz5_1
  obtain ⟨x5_1, x6_1, x7_1, rfl, rfl, HA, HK1, HO_5, BK189, HB⟩ := hrel
  cases gk with
  | zero => exact absurd HA.out (by simp [mapmakerref26_with.l0])
  | succ k1 =>
   have H := HA.out
   clear HA
   simp only [mapmakerref26_with.l0] at H
   by_cases c7 : x7_1 < (l0.length : Int)
   ·rw [if_pos c7] at H
    have c7b0 : decide (x7_1 < (l0.length : Int)) = true := decide_eq_true c7
    clear c7
    by_cases c8 : x6_1 = true
    ·subst c8
     have H1 : (if 0 ≤ x7_1 then (if x5_1.length < 8796093022208 then (mapmakerref26_with.l0 k1 l0 (x5_1 ++ [(⟨(rd_T40 l0 x7_1).f0, (rd_T40 l0 x7_1).f1⟩ : S40)]) true (wrap64 (x7_1 + 1)) a1_0 a1_1) else (none)) else (none)) = some r := by rw [if_pos rfl] at H; exact H
     clear H
     have H := H1
     clear H1
     by_cases c9 : 0 ≤ x7_1
     ·rw [if_pos c9] at H
      have c9b0 : decide (0 ≤ x7_1) = true := decide_eq_true c9
      clear c9
      by_cases c10 : x5_1.length < 8796093022208
      ·rw [if_pos c10] at H
       have LMc10 := aM c10
       clear c10
       obtain ⟨y192, hy192⟩ : ∃ y_ : List (S40), y_ = (x5_1 ++ [(⟨(rd_T40 l0 x7_1).f0, (rd_T40 l0 x7_1).f1⟩ : S40)]) := ⟨_, rfl⟩
       replace H : (mapmakerref26_with.l0 k1 l0 y192 true (wrap64 (x7_1 + 1)) a1_0 a1_1) = some r := by first | (rw [hy192]; with_reducible exact H) | (have H2_ := (Option.bind_some _ _).symm.trans H; rw [hy192]; with_reducible exact H2_) | (have H2_ := (Option.bind_some _ _).symm.trans H; with_reducible exact H2_) | with_reducible exact H | (rw [hy192]; exact H) | exact H
       have Ny192 := aM hy192
       clear hy192
       have H' := aM H
       clear H
       try go_wp2
       replace HO_5 := aM (rD HO_5.out)
       replace BK189 := aM (kD BK189.out)
       replace HB := aM (bD HB.out)
       refine start_ (n := 10) (S := fun w' => True) (ds := []) #[false, false, false, false, false, false, false, false, false, false] (by kernel_rfl) rfl rfl trivial (fun hHeld => ?_); refine with_tabW mapmakerref26_with.tab6 mapmakerref26_with.bits6 (fun HT_ HW_ => ?_)
       generalize wr.drew = w11 at HO_5 BK189 HB hHeld ⊢
       refine pure_ (i := 0) (N := some 17) (v := ?_) (a' := ?_) (ba 10 1) rfl rfl (any_of HT_.out (by kernel_rfl)) (fun _ _ _ h => h) (Or.inl ⟨by rfl, ?_⟩) ?_ ?_
       rotate_left
       ·intro w'
        go_simp
        with_reducible rfl
       rotate_left
       ·simp only [Act.put, sA, sB, sC, i64_w, i32_w]
        rfl
       refine pure_ (i := 1) (N := some 18) (v := ?_) (a' := ?_) (ba 10 3) rfl rfl (any_of HT_.out (by kernel_rfl)) (fun _ _ _ h => h) (Or.inl ⟨by rfl, ?_⟩) ?_ ?_
       rotate_left
       ·intro w'
        go_simp
        with_reducible rfl
       rotate_left
       ·simp only [Act.put, sA, sB, sC, i64_w, i32_w]
        rfl
       refine pure_ (i := 2) (N := some 19) (v := ?_) (a' := ?_) (ba 10 7) rfl rfl (any_of HT_.out (by kernel_rfl)) (fun _ _ _ h => h) (Or.inl ⟨by rfl, ?_⟩) ?_ ?_
       rotate_left
       ·intro w'
        go_simp
        with_reducible rfl
       rotate_left
       ·simp only [Act.put, sA, sB, sC, i64_w, i32_w]
        rfl
       refine pure_ (i := 3) (N := some 20) (v := undef) (a' := ?_) (ba 10 15) rfl rfl (any_of HT_.out (by kernel_rfl)) (fun _ _ _ h => h) (Or.inr ⟨by rfl, rfl⟩) ?_ ?_
       rotate_left
       ·simp only [Act.put, sA, sB, sC, i64_w, i32_w]
        rfl
       refine pure_ (i := 4) (N := some 21) (v := undef) (a' := ?_) (ba 10 31) rfl rfl (any_of HT_.out (by kernel_rfl)) (fun _ _ _ h => h) (Or.inr ⟨by rfl, rfl⟩) ?_ ?_
       rotate_left
       ·simp only [Act.put, sA, sB, sC, i64_w, i32_w]
        rfl
       refine pure_ (i := 5) (N := some 22) (v := undef) (a' := ?_) (ba 10 63) rfl rfl (any_of HT_.out (by kernel_rfl)) (fun _ _ _ h => h) (Or.inr ⟨by rfl, rfl⟩) ?_ ?_
       rotate_left
       ·simp only [Act.put, sA, sB, sC, i64_w, i32_w]
        rfl
       refine pure_ (i := 6) (N := some 23) (v := undef) (a' := ?_) (ba 10 127) rfl rfl (any_of HT_.out (by kernel_rfl)) (fun _ _ _ h => h) (Or.inr ⟨by rfl, rfl⟩) ?_ ?_
       rotate_left
       ·simp only [Act.put, sA, sB, sC, i64_w, i32_w]
        rfl
       refine pure_ (i := 7) (N := some 24) (v := undef) (a' := ?_) (ba 10 255) rfl rfl (any_of HT_.out (by kernel_rfl)) (fun _ _ _ h => h) (Or.inr ⟨by rfl, rfl⟩) ?_ ?_
       rotate_left
       ·simp only [Act.put, sA, sB, sC, i64_w, i32_w]
        rfl
       refine pure_ (i := 8) (N := some 25) (v := undef) (a' := ?_) (ba 10 511) rfl rfl (any_of HT_.out (by kernel_rfl)) (fun _ _ _ h => h) (Or.inr ⟨by rfl, rfl⟩) ?_ ?_
       rotate_left
       ·simp only [Act.put, sA, sB, sC, i64_w, i32_w]
        rfl
       refine pure_ (i := 9) (N := some 26) (v := ?_) (a' := ?_) (ba 10 1023) rfl rfl (any_of HT_.out (by kernel_rfl)) (fun _ _ _ h => h) (Or.inl ⟨by rfl, ?_⟩) ?_ ?_
       rotate_left
       ·intro w'
        go_simp
        with_reducible rfl
       rotate_left
       ·simp only [Act.put, sA, sB, sC, i64_w, i32_w]
        rfl
       refine done_ (done_of HT_.out (by kernel_rfl)) ?_
       have p191 : 0 ≤ (x7_1 : Int) := of_decide_eq_true (by first | (with_reducible assumption) | assumption)
       have q191 : x7_1 < (l0.length : Int) := of_decide_eq_true (by first | (with_reducible assumption) | assumption)
       obtain ⟨ad191, e191, hx191_0, hx191_1⟩ := at_T40 HR0.out x7_1 p191 q191
       cases e191
       replace hx191_0 := (HB.out.cell (World.block_lt_of_cell? w _ hx191_0)).trans hx191_0
       replace hx191_1 := (HB.out.cell (World.block_lt_of_cell? w _ hx191_1)).trans hx191_1
       replace p191 := eq_true p191
       replace q191 := eq_true q191
       try go_wp2_with (first | ((with_reducible refine gate_builtin (b := .append) (xs := #[.tmp 31, .tmp 36]) rfl ?_); at_builtin; refine Kd.R_append k40 (w0 := w) w.heap.size rfl (.tmp 31) (.tmp 36) 26 40 (.agg #[(.int .i64 0), (.int .i64 0)]) 16 rfl Try.underlying26 info40 rfl (by decide) (by omega) u5 x5_1 (⟨(rd_T40 l0 x7_1).f0, (rd_T40 l0 x7_1).f1⟩ : S40) [.int .i64 ((rd_T40 l0 x7_1).f0), .int .i64 ((rd_T40 l0 x7_1).f1)] (fun k_ => k_ ≠ gb189) (fun _ => False) rfl rfl ?aP (fun _ hk => hk.elim) ?aF ?aO ?aB ?aS ?aL ?_; (case aP => exact k40_mkM _ _ _ (⟨(rd_T40 l0 x7_1).f0, (rd_T40 l0 x7_1).f1⟩ : S40)); (case aB => exact (bl)); (case aF => exact (fun k_ hk => Kd.freshB (g := gb189) (o := .cells #[.int .i64 a1_0, .int .i64 a1_1] 40 (0, 0)) (kl BK189) k_ hk)); (case aO => exact (rl HO_5)); (case aS => exact (below_size (bl))); (case aL => have := LMc10.out; omega); intro v193 w12 ho hb hg hat; rw [← Ny192.out] at ho; have n0_ := aM (blk_grown (g := gb189) (o := .cells #[.int .i64 a1_0, .int .i64 a1_1] 40 (0, 0)) (kl BK189) hg (Kd.R_away HO_5.out (fun _ hk => hk))); have n1_ := aM (hb); have n2_ := aM (ho); clear BK189 HB HO_5; have BK189 := n0_; have HB := n1_; have HO194 := n2_; clear n0_ n1_ n2_ ho hb hg hat))
       go_roundg k1
       case measure => have := HK1.out; omega
       case rel => exact ⟨(y192), (true), (wrap64 (x7_1 + 1)), (by first | rfl | (simp; done) | (simp [*]; done)), (by first | rfl | (simp; done) | (simp [*]; done)), H', ⟨by have := HK1.out; omega⟩, ⟨by (with_reducible repeat (first | apply rA | apply rN | apply rD)); exact HO194.out⟩, ⟨by (with_reducible repeat (first | refine kN ?_ _ | refine kD ?_ | refine kA ?_ _)); exact BK189.out⟩, ⟨bl⟩⟩
      ·rw [if_neg c10] at H
       exact absurd H (by simp)
     ·rw [if_neg c9] at H
      exact absurd H (by simp)
    ·replace c8 := Bool.eq_false_iff.mpr c8
     subst c8
     have H1 : (if 0 ≤ x7_1 then ((mapmakerref08_Less.f a1_0 a1_1 ((rd_T40 l0 x7_1).f0) ((rd_T40 l0 x7_1).f1)).bind fun t196 => (if t196 = true then (if x5_1.length < 8796093022208 then ((some (x5_1 ++ [(⟨a1_0, a1_1⟩ : S40)] : List (S40))).bind fun y197 => (if y197.length < 8796093022208 then (mapmakerref26_with.l0 k1 l0 (y197 ++ [(⟨(rd_T40 l0 x7_1).f0, (rd_T40 l0 x7_1).f1⟩ : S40)]) true (wrap64 (x7_1 + 1)) a1_0 a1_1) else (none))) else (none)) else (if x5_1.length < 8796093022208 then (mapmakerref26_with.l0 k1 l0 (x5_1 ++ [(⟨(rd_T40 l0 x7_1).f0, (rd_T40 l0 x7_1).f1⟩ : S40)]) false (wrap64 (x7_1 + 1)) a1_0 a1_1) else (none)))) else (none)) = some r := by rw [if_neg (show ¬ (false = true) by decide)] at H; exact H
     clear H
     have H := H1
     clear H1
     by_cases c13 : 0 ≤ x7_1
     ·rw [if_pos c13] at H
      have c13b0 : decide (0 ≤ x7_1) = true := decide_eq_true c13
      clear c13
      replace H := Option.bind_eq_some_iff.mp H
      obtain ⟨t196, A140, H⟩ := H
      try dsimp only at H
      have A14 := aM A140
      clear A140
      by_cases c15 : t196 = true
      ·subst c15
       have H1 : (if x5_1.length < 8796093022208 then ((some (x5_1 ++ [(⟨a1_0, a1_1⟩ : S40)] : List (S40))).bind fun y197 => (if y197.length < 8796093022208 then (mapmakerref26_with.l0 k1 l0 (y197 ++ [(⟨(rd_T40 l0 x7_1).f0, (rd_T40 l0 x7_1).f1⟩ : S40)]) true (wrap64 (x7_1 + 1)) a1_0 a1_1) else (none))) else (none)) = some r := by rw [if_pos rfl] at H; exact H
       clear H
       have H := H1
       clear H1
       by_cases c16 : x5_1.length < 8796093022208
       ·rw [if_pos c16] at H
        have LMc16 := aM c16
        clear c16
        obtain ⟨y197, hy197⟩ : ∃ y_ : List (S40), y_ = (x5_1 ++ [(⟨a1_0, a1_1⟩ : S40)]) := ⟨_, rfl⟩
        replace H : (if y197.length < 8796093022208 then (mapmakerref26_with.l0 k1 l0 (y197 ++ [(⟨(rd_T40 l0 x7_1).f0, (rd_T40 l0 x7_1).f1⟩ : S40)]) true (wrap64 (x7_1 + 1)) a1_0 a1_1) else (none)) = some r := by first | (rw [hy197]; with_reducible exact H) | (have H2_ := (Option.bind_some _ _).symm.trans H; rw [hy197]; with_reducible exact H2_) | (have H2_ := (Option.bind_some _ _).symm.trans H; with_reducible exact H2_) | with_reducible exact H | (rw [hy197]; exact H) | exact H
        have Ny197 := aM hy197
        clear hy197
        by_cases c17 : y197.length < 8796093022208
        ·rw [if_pos c17] at H
         have LMc17 := aM c17
         clear c17
         obtain ⟨y201, hy201⟩ : ∃ y_ : List (S40), y_ = (y197 ++ [(⟨(rd_T40 l0 x7_1).f0, (rd_T40 l0 x7_1).f1⟩ : S40)]) := ⟨_, rfl⟩
         replace H : (mapmakerref26_with.l0 k1 l0 y201 true (wrap64 (x7_1 + 1)) a1_0 a1_1) = some r := by first | (rw [hy201]; with_reducible exact H) | (have H2_ := (Option.bind_some _ _).symm.trans H; rw [hy201]; with_reducible exact H2_) | (have H2_ := (Option.bind_some _ _).symm.trans H; with_reducible exact H2_) | with_reducible exact H | (rw [hy201]; exact H) | exact H
         have Ny201 := aM hy201
         clear hy201
         have H' := aM H
         clear H
         try go_wp2
         replace HO_5 := aM (rD HO_5.out)
         replace BK189 := aM (kD BK189.out)
         replace HB := aM (bD HB.out)
         have p195 : 0 ≤ (x7_1 : Int) := of_decide_eq_true (by first | (with_reducible assumption) | assumption)
         have q195 : x7_1 < (l0.length : Int) := of_decide_eq_true (by first | (with_reducible assumption) | assumption)
         obtain ⟨ad195, e195, hx195_0, hx195_1⟩ := at_T40 HR0.out x7_1 p195 q195
         have hw195_1 := hx195_1
         have hw195_0 := hx195_0
         cases e195
         replace hx195_0 := (HB.out.cell (World.block_lt_of_cell? w _ hx195_0)).trans hx195_0
         replace hx195_1 := (HB.out.cell (World.block_lt_of_cell? w _ hx195_1)).trans hx195_1
         replace p195 := eq_true p195
         replace q195 := eq_true q195
         refine start_ (n := 10) (S := fun w' => w'.cell? ⟨gb189, 0, none⟩ = some (.int .i64 a1_0) ∧ w'.cell? ⟨gb189, 1, none⟩ = some (.int .i64 a1_1) ∧ w'.cell? (ad195.add ((x7_1).toNat * 2)) = some (.int .i64 ((rd_T40 l0 x7_1).f0)) ∧ w'.cell? ⟨(ad195.add ((x7_1).toNat * 2)).block, (ad195.add ((x7_1).toNat * 2)).off + 1, none⟩ = some (.int .i64 ((rd_T40 l0 x7_1).f1))) (ds := []) #[false, false, false, false, false, false, false, false, false, false] (by kernel_rfl) rfl rfl ⟨(kC BK189.out 0).trans rfl, (kC BK189.out 1).trans rfl, ((HB.out.cell (World.block_lt_of_cell? w _ hw195_0)).trans hw195_0), ((HB.out.cell (World.block_lt_of_cell? w _ hw195_1)).trans hw195_1)⟩ (fun hHeld => ?_); refine with_tabW mapmakerref26_with.tab6 mapmakerref26_with.bits6 (fun HT_ HW_ => ?_)
         generalize wr.drew = w18 at HO_5 BK189 HB hx195_0 hx195_1 hHeld ⊢
         refine pure_ (i := 0) (N := some 17) (v := ?_) (a' := ?_) (ba 10 1) rfl rfl (any_of HT_.out (by kernel_rfl)) (fun _ _ _ h => h) (Or.inl ⟨by rfl, ?_⟩) ?_ ?_
         rotate_left
         ·intro w'
          go_simp
          with_reducible rfl
         rotate_left
         ·simp only [Act.put, sA, sB, sC, i64_w, i32_w]
          rfl
         refine pure_ (i := 1) (N := some 18) (v := ?_) (a' := ?_) (ba 10 3) rfl rfl (any_of HT_.out (by kernel_rfl)) (fun _ _ _ h => h) (Or.inl ⟨by rfl, ?_⟩) ?_ ?_
         rotate_left
         ·intro w'
          go_simp
          with_reducible rfl
         rotate_left
         ·simp only [Act.put, sA, sB, sC, i64_w, i32_w]
          rfl
         refine pure_ (i := 2) (N := some 19) (v := ?_) (a' := ?_) (ba 10 7) rfl rfl (any_of HT_.out (by kernel_rfl)) (fun _ _ _ h => h) (Or.inl ⟨by rfl, ?_⟩) ?_ ?_
         rotate_left
         ·intro w'
          go_simp
          with_reducible rfl
         rotate_left
         ·simp only [Act.put, sA, sB, sC, i64_w, i32_w]
          rfl
         refine pure_ (i := 4) (N := some 21) (v := ?_) (a' := ?_) (ba 10 23) rfl rfl (any_of HT_.out (by kernel_rfl)) (fun _ _ _ h => h) (Or.inl ⟨by rfl, ?_⟩) ?_ ?_
         rotate_left
         ·intro w'
          go_simp
          with_reducible rfl
         rotate_left
         ·simp only [Act.put, sA, sB, sC, i64_w, i32_w]
          rfl
         refine pure_ (i := 5) (N := some 22) (v := ?_) (a' := ?_) (ba 10 55) rfl rfl (any_of HT_.out (by kernel_rfl)) (fun _ _ _ h => h) (Or.inl ⟨by rfl, ?_⟩) ?_ ?_
         rotate_left
         ·intro w'
          go_simp
          with_reducible rfl
         rotate_left
         ·simp only [Act.put, sA, sB, sC, i64_w, i32_w]
          rfl
         refine pure_ (i := 6) (N := some 23) (v := ?_) (a' := ?_) (ba 10 119) rfl rfl (any_of HT_.out (by kernel_rfl)) (fun _ _ _ h => h) (Or.inl ⟨by rfl, ?_⟩) ?_ ?_
         rotate_left
         ·intro w'
          go_simp
          with_reducible rfl
         rotate_left
         ·simp only [Act.put, sA, sB, sC, i64_w, i32_w]
          rfl
         refine take_ (i := 3) (N := some 20) (v := ?_) (a' := ?_) (ba 10 127) rfl rfl (take_ofW HT_.out HW_.out (by kernel_rfl)) (fun _ _ _ h => h) (Or.inl ⟨by rfl, ?_⟩) hHeld ?_ ?_
         rotate_left
         ·rintro w' ⟨s0, s1, s2, s3⟩
          go_simp
          with_reducible rfl
         rotate_left
         ·simp only [Act.put, sA, sB, sC, i64_w, i32_w]
          rfl
         refine take_ (i := 7) (N := some 24) (v := ?_) (a' := ?_) (ba 10 255) rfl rfl (take_ofW HT_.out HW_.out (by kernel_rfl)) (fun _ _ _ h => h) (Or.inl ⟨by rfl, ?_⟩) hHeld ?_ ?_
         rotate_left
         ·rintro w' ⟨s0, s1, s2, s3⟩
          go_simp
          with_reducible rfl
         rotate_left
         ·simp only [Act.put, sA, sB, sC, i64_w, i32_w]
          rfl
         refine one_ (i := 8) (N := some 25) (ba 10 511) rfl rfl (one_of HT_.out (by kernel_rfl)) (by decide) (fun K hK => ?_)
         refine goes_ Try.func41 (by kernel_rfl) rfl #[.agg #[.int .i64 a1_0, .int .i64 a1_1], .agg #[.int .i64 ((rd_T40 l0 x7_1).f0), .int .i64 ((rd_T40 l0 x7_1).f1)]] (by rfl) rfl rfl (by (try simp only [List.map_toArray, List.map_cons, List.map_nil]); first | done | rfl | (simp only [List.length_drop, List.length_take]; rfl)) ?_
         with_reducible refine (mapmakerref08_Less.calls a1_0 a1_1 ((rd_T40 l0 x7_1).f0) ((rd_T40 l0 x7_1).f1) true _ A14.out).mono ?_
         rintro e w19 ⟨rfl, hb⟩
         refine ⟨_, rfl, ?_⟩
         replace HO_5 := aM (rB (rl HO_5) hb)
         replace BK189 := aM (kB (g := gb189) (o := .cells #[.int .i64 a1_0, .int .i64 a1_1] 40 (0, 0)) (kl BK189) hb)
         replace HB := aM (bS (bl) hb)
         (try clear hb)
         (try clear hb2)
         (try clear hk)
         (try clear hi)
         refine hK.out _ _ ⟨(kC BK189.out 0).trans rfl, (kC BK189.out 1).trans rfl, ((HB.out.cell (World.block_lt_of_cell? w _ hw195_0)).trans hw195_0), ((HB.out.cell (World.block_lt_of_cell? w _ hw195_1)).trans hw195_1)⟩ (fun hHeld => ?_)
         clear hK K
         refine norm_ (a' := ?_) ?_ ?_
         rotate_left
         ·show Act.put _ (some 25) _ = _
          simp only [Act.put, sA, sB, sC, i64_w, i32_w]
          rfl
         refine pure_ (i := 9) (N := some 26) (v := ?_) (a' := ?_) (ba 10 1023) rfl rfl (any_of HT_.out (by kernel_rfl)) (fun _ _ _ h => h) (Or.inl ⟨by rfl, ?_⟩) ?_ ?_
         rotate_left
         ·intro w'
          go_simp
          with_reducible rfl
         rotate_left
         ·simp only [Act.put, sA, sB, sC, i64_w, i32_w]
          rfl
         refine done_ (done_of HT_.out (by kernel_rfl)) ?_
         have hcz20_0 : w19.cell? ⟨gb189, 0, none⟩ = some (.int .i64 a1_0) := (kC BK189.out 0).trans rfl
         have hcz20_1 : w19.cell? ⟨gb189, 1, none⟩ = some (.int .i64 a1_1) := (kC BK189.out 1).trans rfl
         have hfz20_0 := kF BK189.out 0
         have hfz20_1 := kF BK189.out 1
         try go_wp2_with (first | ((with_reducible refine gate_builtin (b := .append) (xs := #[.tmp 27, .tmp 29]) rfl ?_); at_builtin; refine Kd.R_append k40 (w0 := w) w.heap.size rfl (.tmp 27) (.tmp 29) 26 40 (.agg #[(.int .i64 0), (.int .i64 0)]) 16 rfl Try.underlying26 info40 rfl (by decide) (by omega) u5 x5_1 (⟨a1_0, a1_1⟩ : S40) [.int .i64 a1_0, .int .i64 a1_1] (fun k_ => k_ ≠ gb189) (fun _ => False) rfl rfl ?aP (fun _ hk => hk.elim) ?aF ?aO ?aB ?aS ?aL ?_; (case aP => exact k40_mkM _ _ _ (⟨a1_0, a1_1⟩ : S40)); (case aB => exact (bl)); (case aF => exact (fun k_ hk => Kd.freshB (g := gb189) (o := .cells #[.int .i64 a1_0, .int .i64 a1_1] 40 (0, 0)) (kl BK189) k_ hk)); (case aO => exact (rl HO_5)); (case aS => exact (below_size (bl))); (case aL => have := LMc16.out; omega); intro v198 w21 ho hb hg hat; rw [← Ny197.out] at ho; have n0_ := aM (blk_grown (g := gb189) (o := .cells #[.int .i64 a1_0, .int .i64 a1_1] 40 (0, 0)) (kl BK189) hg (Kd.R_away HO_5.out (fun _ hk => hk))); have n1_ := aM (hb); have n2_ := aM (ho); clear BK189 HB HO_5; have BK189 := n0_; have HB := n1_; have HO199 := n2_; clear n0_ n1_ n2_ ho hb hg hat; have p200 : 0 ≤ (x7_1 : Int) := of_decide_eq_true (by first | (with_reducible assumption) | assumption); have q200 : x7_1 < (l0.length : Int) := of_decide_eq_true (by first | (with_reducible assumption) | assumption); obtain ⟨ad200, e200, hx200_0, hx200_1⟩ := at_T40 HR0.out x7_1 p200 q200; obtain rfl : ad195 = ad200 := (by injection e200); replace hx200_0 := (HB.out.cell (World.block_lt_of_cell? w _ hx200_0)).trans hx200_0; replace hx200_1 := (HB.out.cell (World.block_lt_of_cell? w _ hx200_1)).trans hx200_1; replace p200 := eq_true p200; replace q200 := eq_true q200) | ((with_reducible refine gate_builtin (b := .append) (xs := #[.tmp 31, .tmp 36]) rfl ?_); at_builtin; refine Kd.R_append k40 (w0 := w) w.heap.size rfl (.tmp 31) (.tmp 36) 26 40 (.agg #[(.int .i64 0), (.int .i64 0)]) 16 rfl Try.underlying26 info40 rfl (by decide) (by omega) v198 y197 (⟨(rd_T40 l0 x7_1).f0, (rd_T40 l0 x7_1).f1⟩ : S40) [.int .i64 ((rd_T40 l0 x7_1).f0), .int .i64 ((rd_T40 l0 x7_1).f1)] (fun k_ => k_ ≠ gb189) (fun _ => False) rfl rfl ?aP (fun _ hk => hk.elim) ?aF ?aO ?aB ?aS ?aL ?_; (case aP => exact k40_mkM _ _ _ (⟨(rd_T40 l0 x7_1).f0, (rd_T40 l0 x7_1).f1⟩ : S40)); (case aB => exact (bl)); (case aF => exact (fun k_ hk => Kd.freshB (g := gb189) (o := .cells #[.int .i64 a1_0, .int .i64 a1_1] 40 (0, 0)) (kl BK189) k_ hk)); (case aO => exact (rl HO199)); (case aS => exact (below_size (bl))); (case aL => have := LMc17.out; omega); intro v202 w22 ho hb hg hat; rw [← Ny201.out] at ho; have n0_ := aM (blk_grown (g := gb189) (o := .cells #[.int .i64 a1_0, .int .i64 a1_1] 40 (0, 0)) (kl BK189) hg (Kd.R_away HO199.out (fun _ hk => hk))); have n1_ := aM (hb); have n2_ := aM (ho); clear BK189 HB HO199; have BK189 := n0_; have HB := n1_; have HO203 := n2_; clear n0_ n1_ n2_ ho hb hg hat))
         go_roundg k1
         case measure => have := HK1.out; omega
         case rel => exact ⟨(y201), (true), (wrap64 (x7_1 + 1)), (by first | rfl | (simp; done) | (simp [*]; done)), (by first | rfl | (simp; done) | (simp [*]; done)), H', ⟨by have := HK1.out; omega⟩, ⟨by (with_reducible repeat (first | apply rA | apply rN | apply rD)); exact HO203.out⟩, ⟨by (with_reducible repeat (first | refine kN ?_ _ | refine kD ?_ | refine kA ?_ _)); exact BK189.out⟩, ⟨bl⟩⟩
        ·rw [if_neg c17] at H
         exact absurd H (by simp)
       ·rw [if_neg c16] at H
        exact absurd H (by simp)
      ·replace c15 := Bool.eq_false_iff.mpr c15
       subst c15
       have H1 : (if x5_1.length < 8796093022208 then (mapmakerref26_with.l0 k1 l0 (x5_1 ++ [(⟨(rd_T40 l0 x7_1).f0, (rd_T40 l0 x7_1).f1⟩ : S40)]) false (wrap64 (x7_1 + 1)) a1_0 a1_1) else (none)) = some r := by rw [if_neg (show ¬ (false = true) by decide)] at H; exact H
       clear H
       have H := H1
       clear H1
       by_cases c23 : x5_1.length < 8796093022208
       ·rw [if_pos c23] at H
        have LMc23 := aM c23
        clear c23
        obtain ⟨y205, hy205⟩ : ∃ y_ : List (S40), y_ = (x5_1 ++ [(⟨(rd_T40 l0 x7_1).f0, (rd_T40 l0 x7_1).f1⟩ : S40)]) := ⟨_, rfl⟩
        replace H : (mapmakerref26_with.l0 k1 l0 y205 false (wrap64 (x7_1 + 1)) a1_0 a1_1) = some r := by first | (rw [hy205]; with_reducible exact H) | (have H2_ := (Option.bind_some _ _).symm.trans H; rw [hy205]; with_reducible exact H2_) | (have H2_ := (Option.bind_some _ _).symm.trans H; with_reducible exact H2_) | with_reducible exact H | (rw [hy205]; exact H) | exact H
        have Ny205 := aM hy205
        clear hy205
        have H' := aM H
        clear H
        try go_wp2
        replace HO_5 := aM (rD HO_5.out)
        replace BK189 := aM (kD BK189.out)
        replace HB := aM (bD HB.out)
        have p195 : 0 ≤ (x7_1 : Int) := of_decide_eq_true (by first | (with_reducible assumption) | assumption)
        have q195 : x7_1 < (l0.length : Int) := of_decide_eq_true (by first | (with_reducible assumption) | assumption)
        obtain ⟨ad195, e195, hx195_0, hx195_1⟩ := at_T40 HR0.out x7_1 p195 q195
        have hw195_1 := hx195_1
        have hw195_0 := hx195_0
        cases e195
        replace hx195_0 := (HB.out.cell (World.block_lt_of_cell? w _ hx195_0)).trans hx195_0
        replace hx195_1 := (HB.out.cell (World.block_lt_of_cell? w _ hx195_1)).trans hx195_1
        replace p195 := eq_true p195
        replace q195 := eq_true q195
        refine start_ (n := 10) (S := fun w' => w'.cell? ⟨gb189, 0, none⟩ = some (.int .i64 a1_0) ∧ w'.cell? ⟨gb189, 1, none⟩ = some (.int .i64 a1_1) ∧ w'.cell? (ad195.add ((x7_1).toNat * 2)) = some (.int .i64 ((rd_T40 l0 x7_1).f0)) ∧ w'.cell? ⟨(ad195.add ((x7_1).toNat * 2)).block, (ad195.add ((x7_1).toNat * 2)).off + 1, none⟩ = some (.int .i64 ((rd_T40 l0 x7_1).f1))) (ds := []) #[false, false, false, false, false, false, false, false, false, false] (by kernel_rfl) rfl rfl ⟨(kC BK189.out 0).trans rfl, (kC BK189.out 1).trans rfl, ((HB.out.cell (World.block_lt_of_cell? w _ hw195_0)).trans hw195_0), ((HB.out.cell (World.block_lt_of_cell? w _ hw195_1)).trans hw195_1)⟩ (fun hHeld => ?_); refine with_tabW mapmakerref26_with.tab6 mapmakerref26_with.bits6 (fun HT_ HW_ => ?_)
        generalize wr.drew = w24 at HO_5 BK189 HB hx195_0 hx195_1 hHeld ⊢
        refine pure_ (i := 0) (N := some 17) (v := ?_) (a' := ?_) (ba 10 1) rfl rfl (any_of HT_.out (by kernel_rfl)) (fun _ _ _ h => h) (Or.inl ⟨by rfl, ?_⟩) ?_ ?_
        rotate_left
        ·intro w'
         go_simp
         with_reducible rfl
        rotate_left
        ·simp only [Act.put, sA, sB, sC, i64_w, i32_w]
         rfl
        refine pure_ (i := 1) (N := some 18) (v := ?_) (a' := ?_) (ba 10 3) rfl rfl (any_of HT_.out (by kernel_rfl)) (fun _ _ _ h => h) (Or.inl ⟨by rfl, ?_⟩) ?_ ?_
        rotate_left
        ·intro w'
         go_simp
         with_reducible rfl
        rotate_left
        ·simp only [Act.put, sA, sB, sC, i64_w, i32_w]
         rfl
        refine pure_ (i := 2) (N := some 19) (v := ?_) (a' := ?_) (ba 10 7) rfl rfl (any_of HT_.out (by kernel_rfl)) (fun _ _ _ h => h) (Or.inl ⟨by rfl, ?_⟩) ?_ ?_
        rotate_left
        ·intro w'
         go_simp
         with_reducible rfl
        rotate_left
        ·simp only [Act.put, sA, sB, sC, i64_w, i32_w]
         rfl
        refine pure_ (i := 4) (N := some 21) (v := ?_) (a' := ?_) (ba 10 23) rfl rfl (any_of HT_.out (by kernel_rfl)) (fun _ _ _ h => h) (Or.inl ⟨by rfl, ?_⟩) ?_ ?_
        rotate_left
        ·intro w'
         go_simp
         with_reducible rfl
        rotate_left
        ·simp only [Act.put, sA, sB, sC, i64_w, i32_w]
         rfl
        refine pure_ (i := 5) (N := some 22) (v := ?_) (a' := ?_) (ba 10 55) rfl rfl (any_of HT_.out (by kernel_rfl)) (fun _ _ _ h => h) (Or.inl ⟨by rfl, ?_⟩) ?_ ?_
        rotate_left
        ·intro w'
         go_simp
         with_reducible rfl
        rotate_left
        ·simp only [Act.put, sA, sB, sC, i64_w, i32_w]
         rfl
        refine pure_ (i := 6) (N := some 23) (v := ?_) (a' := ?_) (ba 10 119) rfl rfl (any_of HT_.out (by kernel_rfl)) (fun _ _ _ h => h) (Or.inl ⟨by rfl, ?_⟩) ?_ ?_
        rotate_left
        ·intro w'
         go_simp
         with_reducible rfl
        rotate_left
        ·simp only [Act.put, sA, sB, sC, i64_w, i32_w]
         rfl
        refine take_ (i := 3) (N := some 20) (v := ?_) (a' := ?_) (ba 10 127) rfl rfl (take_ofW HT_.out HW_.out (by kernel_rfl)) (fun _ _ _ h => h) (Or.inl ⟨by rfl, ?_⟩) hHeld ?_ ?_
        rotate_left
        ·rintro w' ⟨s0, s1, s2, s3⟩
         go_simp
         with_reducible rfl
        rotate_left
        ·simp only [Act.put, sA, sB, sC, i64_w, i32_w]
         rfl
        refine take_ (i := 7) (N := some 24) (v := ?_) (a' := ?_) (ba 10 255) rfl rfl (take_ofW HT_.out HW_.out (by kernel_rfl)) (fun _ _ _ h => h) (Or.inl ⟨by rfl, ?_⟩) hHeld ?_ ?_
        rotate_left
        ·rintro w' ⟨s0, s1, s2, s3⟩
         go_simp
         with_reducible rfl
        rotate_left
        ·simp only [Act.put, sA, sB, sC, i64_w, i32_w]
         rfl
        refine one_ (i := 8) (N := some 25) (ba 10 511) rfl rfl (one_of HT_.out (by kernel_rfl)) (by decide) (fun K hK => ?_)
        refine goes_ Try.func41 (by kernel_rfl) rfl #[.agg #[.int .i64 a1_0, .int .i64 a1_1], .agg #[.int .i64 ((rd_T40 l0 x7_1).f0), .int .i64 ((rd_T40 l0 x7_1).f1)]] (by rfl) rfl rfl (by (try simp only [List.map_toArray, List.map_cons, List.map_nil]); first | done | rfl | (simp only [List.length_drop, List.length_take]; rfl)) ?_
        with_reducible refine (mapmakerref08_Less.calls a1_0 a1_1 ((rd_T40 l0 x7_1).f0) ((rd_T40 l0 x7_1).f1) false _ A14.out).mono ?_
        rintro e w25 ⟨rfl, hb⟩
        refine ⟨_, rfl, ?_⟩
        replace HO_5 := aM (rB (rl HO_5) hb)
        replace BK189 := aM (kB (g := gb189) (o := .cells #[.int .i64 a1_0, .int .i64 a1_1] 40 (0, 0)) (kl BK189) hb)
        replace HB := aM (bS (bl) hb)
        (try clear hb)
        (try clear hb2)
        (try clear hk)
        (try clear hi)
        refine hK.out _ _ ⟨(kC BK189.out 0).trans rfl, (kC BK189.out 1).trans rfl, ((HB.out.cell (World.block_lt_of_cell? w _ hw195_0)).trans hw195_0), ((HB.out.cell (World.block_lt_of_cell? w _ hw195_1)).trans hw195_1)⟩ (fun hHeld => ?_)
        clear hK K
        refine norm_ (a' := ?_) ?_ ?_
        rotate_left
        ·show Act.put _ (some 25) _ = _
         simp only [Act.put, sA, sB, sC, i64_w, i32_w]
         rfl
        refine pure_ (i := 9) (N := some 26) (v := ?_) (a' := ?_) (ba 10 1023) rfl rfl (any_of HT_.out (by kernel_rfl)) (fun _ _ _ h => h) (Or.inl ⟨by rfl, ?_⟩) ?_ ?_
        rotate_left
        ·intro w'
         go_simp
         with_reducible rfl
        rotate_left
        ·simp only [Act.put, sA, sB, sC, i64_w, i32_w]
         rfl
        refine done_ (done_of HT_.out (by kernel_rfl)) ?_
        have p204 : 0 ≤ (x7_1 : Int) := of_decide_eq_true (by first | (with_reducible assumption) | assumption)
        have q204 : x7_1 < (l0.length : Int) := of_decide_eq_true (by first | (with_reducible assumption) | assumption)
        obtain ⟨ad204, e204, hx204_0, hx204_1⟩ := at_T40 HR0.out x7_1 p204 q204
        obtain rfl : ad195 = ad204 := (by injection e204)
        replace hx204_0 := (HB.out.cell (World.block_lt_of_cell? w _ hx204_0)).trans hx204_0
        replace hx204_1 := (HB.out.cell (World.block_lt_of_cell? w _ hx204_1)).trans hx204_1
        replace p204 := eq_true p204
        replace q204 := eq_true q204
        try go_wp2_with (first | ((with_reducible refine gate_builtin (b := .append) (xs := #[.tmp 31, .tmp 36]) rfl ?_); at_builtin; refine Kd.R_append k40 (w0 := w) w.heap.size rfl (.tmp 31) (.tmp 36) 26 40 (.agg #[(.int .i64 0), (.int .i64 0)]) 16 rfl Try.underlying26 info40 rfl (by decide) (by omega) u5 x5_1 (⟨(rd_T40 l0 x7_1).f0, (rd_T40 l0 x7_1).f1⟩ : S40) [.int .i64 ((rd_T40 l0 x7_1).f0), .int .i64 ((rd_T40 l0 x7_1).f1)] (fun k_ => k_ ≠ gb189) (fun _ => False) rfl rfl ?aP (fun _ hk => hk.elim) ?aF ?aO ?aB ?aS ?aL ?_; (case aP => exact k40_mkM _ _ _ (⟨(rd_T40 l0 x7_1).f0, (rd_T40 l0 x7_1).f1⟩ : S40)); (case aB => exact (bl)); (case aF => exact (fun k_ hk => Kd.freshB (g := gb189) (o := .cells #[.int .i64 a1_0, .int .i64 a1_1] 40 (0, 0)) (kl BK189) k_ hk)); (case aO => exact (rl HO_5)); (case aS => exact (below_size (bl))); (case aL => have := LMc23.out; omega); intro v206 w26 ho hb hg hat; rw [← Ny205.out] at ho; have n0_ := aM (blk_grown (g := gb189) (o := .cells #[.int .i64 a1_0, .int .i64 a1_1] 40 (0, 0)) (kl BK189) hg (Kd.R_away HO_5.out (fun _ hk => hk))); have n1_ := aM (hb); have n2_ := aM (ho); clear BK189 HB HO_5; have BK189 := n0_; have HB := n1_; have HO207 := n2_; clear n0_ n1_ n2_ ho hb hg hat))
        go_roundg k1
        case measure => have := HK1.out; omega
        case rel => exact ⟨(y205), (false), (wrap64 (x7_1 + 1)), (by first | rfl | (simp; done) | (simp [*]; done)), (by first | rfl | (simp; done) | (simp [*]; done)), H', ⟨by have := HK1.out; omega⟩, ⟨by (with_reducible repeat (first | apply rA | apply rN | apply rD)); exact HO207.out⟩, ⟨by (with_reducible repeat (first | refine kN ?_ _ | refine kD ?_ | refine kA ?_ _)); exact BK189.out⟩, ⟨bl⟩⟩
       ·rw [if_neg c23] at H
        exact absurd H (by simp)
     ·rw [if_neg c13] at H
      exact absurd H (by simp)
   ·rw [if_neg c7] at H
    have c7b0 : decide (x7_1 < (l0.length : Int)) = false := decide_eq_false c7
    clear c7
    by_cases c27 : x6_1 = true
    ·subst c27
     have H1 : (some x5_1) = some r := by rw [if_pos rfl] at H; exact H
     clear H
     have H := H1
     clear H1
     obtain rfl := Option.some.inj H
     go_wp2
     go_ret
     exact ⟨_, by first | rfl | (simp [errW_none, errW_some] <;> rfl) | (simp [*, errW_none, errW_some] <;> rfl), by (with_reducible repeat (first | apply rA | apply rN | apply rD)); exact rM HO_5.out (fun _ hk => trivial), bl⟩
    ·replace c27 := Bool.eq_false_iff.mpr c27
     subst c27
     have H1 : (if x5_1.length < 8796093022208 then (some (x5_1 ++ [(⟨a1_0, a1_1⟩ : S40)])) else (none)) = some r := by rw [if_neg (show ¬ (false = true) by decide)] at H; exact H
     clear H
     have H := H1
     clear H1
     by_cases c28 : x5_1.length < 8796093022208
     ·rw [if_pos c28] at H
      have LMc28 := aM c28
      clear c28
      obtain ⟨y208, hy208⟩ : ∃ y_ : List (S40), y_ = (x5_1 ++ [(⟨a1_0, a1_1⟩ : S40)]) := ⟨_, rfl⟩
      replace H : (some y208) = some r := by first | (rw [hy208]; with_reducible exact H) | (have H2_ := (Option.bind_some _ _).symm.trans H; rw [hy208]; with_reducible exact H2_) | (have H2_ := (Option.bind_some _ _).symm.trans H; with_reducible exact H2_) | with_reducible exact H | (rw [hy208]; exact H) | exact H
      have Ny208 := aM hy208
      clear hy208
      obtain rfl := Option.some.inj H
      have hcz29_0 : wr.cell? ⟨gb189, 0, none⟩ = some (.int .i64 a1_0) := (kC BK189.out 0).trans rfl
      have hcz29_1 : wr.cell? ⟨gb189, 1, none⟩ = some (.int .i64 a1_1) := (kC BK189.out 1).trans rfl
      have hfz29_0 := kF BK189.out 0
      have hfz29_1 := kF BK189.out 1
      go_wp2_with (first | ((with_reducible refine gate_builtin (b := .append) (xs := #[.tmp 40, .tmp 42]) rfl ?_); at_builtin; refine Kd.R_append k40 (w0 := w) w.heap.size rfl (.tmp 40) (.tmp 42) 26 40 (.agg #[(.int .i64 0), (.int .i64 0)]) 16 rfl Try.underlying26 info40 rfl (by decide) (by omega) u5 x5_1 (⟨a1_0, a1_1⟩ : S40) [.int .i64 a1_0, .int .i64 a1_1] (fun k_ => k_ ≠ gb189) (fun _ => False) rfl rfl ?aP (fun _ hk => hk.elim) ?aF ?aO ?aB ?aS ?aL ?_; (case aP => exact k40_mkM _ _ _ (⟨a1_0, a1_1⟩ : S40)); (case aB => exact (bl)); (case aF => exact (fun k_ hk => Kd.freshB (g := gb189) (o := .cells #[.int .i64 a1_0, .int .i64 a1_1] 40 (0, 0)) (kl BK189) k_ hk)); (case aO => exact (rl HO_5)); (case aS => exact (below_size (bl))); (case aL => have := LMc28.out; omega); intro v209 w30 ho hb hg hat; rw [← Ny208.out] at ho; have n0_ := aM (blk_grown (g := gb189) (o := .cells #[.int .i64 a1_0, .int .i64 a1_1] 40 (0, 0)) (kl BK189) hg (Kd.R_away HO_5.out (fun _ hk => hk))); have n1_ := aM (hb); have n2_ := aM (ho); clear BK189 HB HO_5; have BK189 := n0_; have HB := n1_; have HO210 := n2_; clear n0_ n1_ n2_ ho hb hg hat))
      go_ret
      exact ⟨_, by first | rfl | (simp [errW_none, errW_some] <;> rfl) | (simp [*, errW_none, errW_some] <;> rfl), by (with_reducible repeat (first | apply rA | apply rN | apply rD)); exact rM HO210.out (fun _ hk => trivial), bl⟩
     ·rw [if_neg c28] at H
      exact absurd H (by simp)
mutual
def mapmakerref26_Fixed.l0 : Nat → List (S31) → List (S40) → Int → Option ((List (S40)))
 | 0, _, _, _ => none
 | k + 1, x0, x3, x4 => if x4 < (x0.length : Int) then (if 0 ≤ x4 then (mapmakerref26_Fixed.l1 k x0 x3 x4 ((rd_T31 x0 x4).f1) 0) else (none)) else (some x3)
def mapmakerref26_Fixed.l1 : Nat → List (S31) → List (S40) → Int → List (S40) → Int → Option ((List (S40)))
 | 0, _, _, _, _, _ => none
 | k + 1, x0, x3, x4, x5, x6 => if x6 < (x5.length : Int) then (if 0 ≤ x6 then ((mapmakerref08_Valid.f ((rd_T40 x5 x6).f0) ((rd_T40 x5 x6).f1)).bind fun t213 => (if t213 = true then (if x6 = 0 then ((mapmakerref26_with.f k x3 ((rd_T40 x5 x6).f0) ((rd_T40 x5 x6).f1)).bind fun t215 => (mapmakerref26_Fixed.l1 k x0 t215 x4 x5 (wrap64 (x6 + 1)))) else (if x6 = (wrap64 ((x5.length : Int) - 1)) then ((mapmakerref26_with.f k x3 ((rd_T40 x5 x6).f0) ((rd_T40 x5 x6).f1)).bind fun t219 => (mapmakerref26_Fixed.l1 k x0 t219 x4 x5 (wrap64 (x6 + 1)))) else ((mapmakerref26_times.f k x0 ((rd_T40 x5 x6).f0) ((rd_T40 x5 x6).f1)).bind fun t223 => (if t223 > 1 then ((mapmakerref26_with.f k x3 ((rd_T40 x5 x6).f0) ((rd_T40 x5 x6).f1)).bind fun t225 => (mapmakerref26_Fixed.l1 k x0 t225 x4 x5 (wrap64 (x6 + 1)))) else (mapmakerref26_Fixed.l1 k x0 x3 x4 x5 (wrap64 (x6 + 1))))))) else (mapmakerref26_Fixed.l1 k x0 x3 x4 x5 (wrap64 (x6 + 1))))) else (none)) else (mapmakerref26_Fixed.l0 k x0 x3 (wrap64 (x4 + 1)))
end
def mapmakerref26_Fixed.f (k : Nat) (l0 : List (S31)) : Option ((List (S40))) := mapmakerref26_Fixed.l0 k l0 ([] : List (S40)) 0
theorem mapmakerref26_Fixed.mono_l : ∀ k, (∀ y0 y1 y2, LeO (mapmakerref26_Fixed.l0 k y0 y1 y2) (mapmakerref26_Fixed.l0 (k + 1) y0 y1 y2)) ∧ (∀ y0 y1 y2 y3 y4, LeO (mapmakerref26_Fixed.l1 k y0 y1 y2 y3 y4) (mapmakerref26_Fixed.l1 (k + 1) y0 y1 y2 y3 y4))
 | 0 => ⟨fun _ _ _ r h => by simp [mapmakerref26_Fixed.l0] at h, fun _ _ _ _ _ r h => by simp [mapmakerref26_Fixed.l1] at h⟩
 | k + 1 => by
  obtain ⟨ih0, ih1⟩ := mapmakerref26_Fixed.mono_l k
  refine ⟨?_, ?_⟩
  ·intro y0 y1 y2
   unfold mapmakerref26_Fixed.l0
   repeat' first
   | (with_reducible exact ih0 _ _ _)
   | (with_reducible exact ih1 _ _ _ _ _)
   | (with_reducible exact mapmakerref26_times.mono _ _ _ _)
   | (with_reducible exact mapmakerref26_with.mono _ _ _ _)
   | (with_reducible exact LeO.refl _)
   | (with_reducible exact LeO.none _)
   | (with_reducible refine LeO.ite ?_ ?_)
   | (with_reducible refine LeO.bind ?_ (fun _ => ?_))
   | exact ih0 _ _ _
   | exact ih1 _ _ _ _ _
   | exact mapmakerref26_times.mono _ _ _ _
   | exact mapmakerref26_with.mono _ _ _ _
   | exact LeO.none _
   | refine LeO.ite ?_ ?_
   | refine LeO.bind ?_ (fun _ => ?_)
  ·intro y0 y1 y2 y3 y4
   unfold mapmakerref26_Fixed.l1
   repeat' first
   | (with_reducible exact ih0 _ _ _)
   | (with_reducible exact ih1 _ _ _ _ _)
   | (with_reducible exact mapmakerref26_times.mono _ _ _ _)
   | (with_reducible exact mapmakerref26_with.mono _ _ _ _)
   | (with_reducible exact LeO.refl _)
   | (with_reducible exact LeO.none _)
   | (with_reducible refine LeO.ite ?_ ?_)
   | (with_reducible refine LeO.bind ?_ (fun _ => ?_))
   | exact ih0 _ _ _
   | exact ih1 _ _ _ _ _
   | exact mapmakerref26_times.mono _ _ _ _
   | exact mapmakerref26_with.mono _ _ _ _
   | exact LeO.none _
   | refine LeO.ite ?_ ?_
   | refine LeO.bind ?_ (fun _ => ?_)
theorem mapmakerref26_Fixed.mono : ∀ a0 k, LeO (mapmakerref26_Fixed.f k a0) (mapmakerref26_Fixed.f (k + 1) a0) := by
 intro a0 k
 obtain ⟨ih0, ih1⟩ := mapmakerref26_Fixed.mono_l k
 unfold mapmakerref26_Fixed.f
 repeat' first
   | (with_reducible exact ih0 _ _ _)
   | (with_reducible exact ih1 _ _ _ _ _)
   | (with_reducible exact mapmakerref26_times.mono _ _ _ _)
   | (with_reducible exact mapmakerref26_with.mono _ _ _ _)
   | (with_reducible exact LeO.refl _)
   | (with_reducible exact LeO.none _)
   | (with_reducible refine LeO.ite ?_ ?_)
   | (with_reducible refine LeO.bind ?_ (fun _ => ?_))
   | exact ih0 _ _ _
   | exact ih1 _ _ _ _ _
   | exact mapmakerref26_times.mono _ _ _ _
   | exact mapmakerref26_with.mono _ _ _ _
   | exact LeO.none _
   | refine LeO.ite ?_ ?_
   | refine LeO.bind ?_ (fun _ => ?_)
set_option maxHeartbeats 8000000 in
set_option maxRecDepth 100000 in
theorem mapmakerref26_Fixed.calls (k : Nat) (A0 : Option Addr) (c0 : Nat) (l0 : List (S31)) (r : List (S40)) (w : World) (hr0 : Kd.C k31 w A0 l0.length l0) (hc0 : l0.length ≤ c0) (h : mapmakerref26_Fixed.f k l0 = some r) :
  Calls Try.prog 11 #[.slice A0 l0.length c0] w fun e w' => ∃ v0_ : Value, e = .returned (v0_) ∧ Kd.R k40 40 w' w.heap.size (fun _ => True) v0_ r ∧ Below w.heap.size w w' := by
 have hu40 := Try.underlying40
 have HR0 := aM hr0
 have HC0 := aM hc0
 clear hr0 hc0
 have HB := aM (Below.refl w.heap.size w)
 have H : (mapmakerref26_Fixed.l0 k l0 ([] : List (S40)) 0) = some r := h
 clear h
 have H' := aM H
 clear H
 go_enter Try.func11, Try.ntmps11
 go_wp2
 go_loopg [3, 4] k (fun kq v3 v4 w' => ∃ (x3_1 : List (S40)) (x4_1 : Int), v4 = .int .i64 x4_1 ∧ Aside0 (mapmakerref26_Fixed.l0 kq l0 x3_1 x4_1 = some r) ∧ Aside0 (kq ≤ k) ∧ Aside0 (Kd.R k40 40 w' w.heap.size (fun _ => True) v3 x3_1) ∧ Aside0 (Below w.heap.size w w'))
 case atStart => exact ⟨(([] : List (S40))), (0), (by first | rfl | (simp; done) | (simp [*]; done)), H', ⟨Nat.le_refl _⟩, ⟨by first | exact Kd.R_nil _ _ _ _ _ | exact Kd.N_nil _ _ _ _ _ | exact Kd.V_nil _ _ _ _ _ | exact Kd.Q_nil _ _ _ _ _ | exact Kd.S_nil _ _ _ _ _⟩, ⟨bl⟩⟩
 case round =>
  clear H'
  try clear c1
  obtain ⟨x3_1, x4_1, rfl, HA, HK1, HO_3, HB⟩ := hrel
  cases gk with
  | zero => exact absurd HA.out (by simp [mapmakerref26_Fixed.l0])
  | succ k1 =>
   have H := HA.out
   clear HA
   simp only [mapmakerref26_Fixed.l0] at H
   by_cases c2 : x4_1 < (l0.length : Int)
   ·rw [if_pos c2] at H
    have c2b0 : decide (x4_1 < (l0.length : Int)) = true := decide_eq_true c2
    clear c2
    by_cases c3 : 0 ≤ x4_1
    ·rw [if_pos c3] at H
     have c3b0 : decide (0 ≤ x4_1) = true := decide_eq_true c3
     clear c3
     have H' := aM H
     clear H
     have p211 : 0 ≤ (x4_1 : Int) := of_decide_eq_true (by first | (with_reducible assumption) | assumption)
     have q211 : x4_1 < (l0.length : Int) := of_decide_eq_true (by first | (with_reducible assumption) | assumption)
     obtain ⟨ad211, A211_1, c211_1, A211_2, c211_2, A211_3, c211_3, e211, hx211_0, hx211_1, hx211_2, hx211_3, hl211_1, hi211_1, hl211_2, hi211_2, hl211_3, hi211_3⟩ := at_T31 HR0.out x4_1 p211 q211
     cases e211
     replace hx211_0 := (HB.out.cell (World.block_lt_of_cell? w _ hx211_0)).trans hx211_0
     replace hx211_1 := (HB.out.cell (World.block_lt_of_cell? w _ hx211_1)).trans hx211_1
     replace hx211_2 := (HB.out.cell (World.block_lt_of_cell? w _ hx211_2)).trans hx211_2
     replace hx211_3 := (HB.out.cell (World.block_lt_of_cell? w _ hx211_3)).trans hx211_3
     have HR211_1 := aM hi211_1
     have HC211_1 := aM hl211_1
     clear hi211_1 hl211_1
     have HR211_2 := aM hi211_2
     have HC211_2 := aM hl211_2
     clear hi211_2 hl211_2
     have HR211_3 := aM hi211_3
     have HC211_3 := aM hl211_3
     clear hi211_3 hl211_3
     replace p211 := eq_true p211
     replace q211 := eq_true q211
     go_wp2
     go_loopg [3, 6] k1 (fun kq v3 v6 w' => ∃ (x3_2 : List (S40)) (x6_2 : Int), v6 = .int .i64 x6_2 ∧ Aside0 (mapmakerref26_Fixed.l1 kq l0 x3_2 x4_1 ((rd_T31 l0 x4_1).f1) x6_2 = some r) ∧ Aside0 (kq ≤ k1) ∧ Aside0 (Kd.R k40 40 w' w.heap.size (fun _ => True) v3 x3_2) ∧ Aside0 (Below w.heap.size w w'))
     case atStart => exact ⟨(x3_1), (0), (by first | rfl | (simp; done) | (simp [*]; done)), H', ⟨Nat.le_refl _⟩, ⟨by (with_reducible repeat (first | apply rA | apply rN | apply rD)); exact HO_3.out⟩, ⟨bl⟩⟩
     case round =>
      clear H'
      try clear c1
      try clear c2
      try clear c2b0
      try clear p2
      try clear q2
      try clear hx2
      try clear c3
      try clear c3b0
      try clear hx211_0
      try clear hx211_1
      try clear hx211_2
      try clear hx211_3
      try clear p211
      try clear q211
      obtain ⟨x3_2, x6_2, rfl, HA, HK2, HO_3, HB⟩ := hrel
      cases gk with
      | zero => exact absurd HA.out (by simp [mapmakerref26_Fixed.l1])
      | succ k2 =>
       have H := HA.out
       clear HA
       simp only [mapmakerref26_Fixed.l1] at H
       by_cases c4 : x6_2 < (((rd_T31 l0 x4_1).f1).length : Int)
       ·rw [if_pos c4] at H
        have c4b0 : decide (x6_2 < (((rd_T31 l0 x4_1).f1).length : Int)) = true := decide_eq_true c4
        clear c4
        by_cases c5 : 0 ≤ x6_2
        ·rw [if_pos c5] at H
         have c5b0 : decide (0 ≤ x6_2) = true := decide_eq_true c5
         clear c5
         replace H := Option.bind_eq_some_iff.mp H
         obtain ⟨t213, A60, H⟩ := H
         try dsimp only at H
         have A6 := aM A60
         clear A60
         by_cases c7 : t213 = true
         ·subst c7
          have H1 : (if x6_2 = 0 then ((mapmakerref26_with.f k2 x3_2 ((rd_T40 ((rd_T31 l0 x4_1).f1) x6_2).f0) ((rd_T40 ((rd_T31 l0 x4_1).f1) x6_2).f1)).bind fun t215 => (mapmakerref26_Fixed.l1 k2 l0 t215 x4_1 ((rd_T31 l0 x4_1).f1) (wrap64 (x6_2 + 1)))) else (if x6_2 = (wrap64 ((((rd_T31 l0 x4_1).f1).length : Int) - 1)) then ((mapmakerref26_with.f k2 x3_2 ((rd_T40 ((rd_T31 l0 x4_1).f1) x6_2).f0) ((rd_T40 ((rd_T31 l0 x4_1).f1) x6_2).f1)).bind fun t219 => (mapmakerref26_Fixed.l1 k2 l0 t219 x4_1 ((rd_T31 l0 x4_1).f1) (wrap64 (x6_2 + 1)))) else ((mapmakerref26_times.f k2 l0 ((rd_T40 ((rd_T31 l0 x4_1).f1) x6_2).f0) ((rd_T40 ((rd_T31 l0 x4_1).f1) x6_2).f1)).bind fun t223 => (if t223 > 1 then ((mapmakerref26_with.f k2 x3_2 ((rd_T40 ((rd_T31 l0 x4_1).f1) x6_2).f0) ((rd_T40 ((rd_T31 l0 x4_1).f1) x6_2).f1)).bind fun t225 => (mapmakerref26_Fixed.l1 k2 l0 t225 x4_1 ((rd_T31 l0 x4_1).f1) (wrap64 (x6_2 + 1)))) else (mapmakerref26_Fixed.l1 k2 l0 x3_2 x4_1 ((rd_T31 l0 x4_1).f1) (wrap64 (x6_2 + 1))))))) = some r := by rw [if_pos rfl] at H; exact H
          clear H
          have H := H1
          clear H1
          by_cases c8 : x6_2 = 0
          ·rw [if_pos c8] at H
           have c8b0 : (x6_2 == 0) = true := beq_iff_eq.mpr c8
           have c8b1 : (x6_2 != 0) = false := bne_eq_false_iff_eq.mpr c8
           clear c8
           replace H := Option.bind_eq_some_iff.mp H
           obtain ⟨t215, A90, H⟩ := H
           try dsimp only at H
           have A9 := aM A90
           clear A90
           have H' := aM H
           clear H
           have p212 : 0 ≤ (x6_2 : Int) := of_decide_eq_true (by first | (with_reducible assumption) | assumption)
           have q212 : x6_2 < (((rd_T31 l0 x4_1).f1).length : Int) := of_decide_eq_true (by first | (with_reducible assumption) | assumption)
           obtain ⟨ad212, e212, hx212_0, hx212_1⟩ := at_T40 HR211_1.out x6_2 p212 q212
           cases e212
           replace hx212_0 := (HB.out.cell (World.block_lt_of_cell? w _ hx212_0)).trans hx212_0
           replace hx212_1 := (HB.out.cell (World.block_lt_of_cell? w _ hx212_1)).trans hx212_1
           replace p212 := eq_true p212
           replace q212 := eq_true q212
           go_wp2_with (first | ((with_reducible refine gate_callee (f := 27) rfl ?_); refine goesL_ (some 28) rfl rfl Try.func27 (by kernel_rfl) rfl #[.agg #[.int .i64 ((rd_T40 ((rd_T31 l0 x4_1).f1) x6_2).f0), .int .i64 ((rd_T40 ((rd_T31 l0 x4_1).f1) x6_2).f1)]] rfl (by (try simp only [List.map_toArray, List.map_cons, List.map_nil]); first | done | rfl | (simp only [List.length_drop, List.length_take]; rfl)) ?_; (with_reducible refine (mapmakerref08_Valid.calls ((rd_T40 ((rd_T31 l0 x4_1).f1) x6_2).f0) ((rd_T40 ((rd_T31 l0 x4_1).f1) x6_2).f1) true _ A6.out).mono ?_); rintro e w10 ⟨rfl, hb⟩; refine ⟨_, rfl, ?_⟩; replace HO_3 := aM (rB (rl HO_3) hb); replace HB := aM (bS (bl) hb); (try clear hb); (try clear hb2); (try clear hk); (try clear hi); have p214 : 0 ≤ (x6_2 : Int) := of_decide_eq_true (by first | (with_reducible assumption) | assumption); have q214 : x6_2 < (((rd_T31 l0 x4_1).f1).length : Int) := of_decide_eq_true (by first | (with_reducible assumption) | assumption); obtain ⟨ad214, e214, hx214_0, hx214_1⟩ := at_T40 HR211_1.out x6_2 p214 q214; obtain rfl : ad212 = ad214 := (by injection e214); replace hx214_0 := (HB.out.cell (World.block_lt_of_cell? w _ hx214_0)).trans hx214_0; replace hx214_1 := (HB.out.cell (World.block_lt_of_cell? w _ hx214_1)).trans hx214_1; replace p214 := eq_true p214; replace q214 := eq_true q214; obtain ⟨Ao11, co11, eo11⟩ := Kd.R_slice HO_3.out; subst eo11) | ((with_reducible refine gate_callee (f := 29) rfl ?_); refine goesL_ (some 54) rfl rfl Try.func29 (by kernel_rfl) rfl #[.slice Ao11 x3_2.length co11, .agg #[.int .i64 ((rd_T40 ((rd_T31 l0 x4_1).f1) x6_2).f0), .int .i64 ((rd_T40 ((rd_T31 l0 x4_1).f1) x6_2).f1)]] rfl (by (try simp only [List.map_toArray, List.map_cons, List.map_nil]); first | done | rfl | (simp only [List.length_drop, List.length_take]; rfl)) ?_; (with_reducible refine (mapmakerref26_with.calls k2 _ _ x3_2 ((rd_T40 ((rd_T31 l0 x4_1).f1) x6_2).f0) ((rd_T40 ((rd_T31 l0 x4_1).f1) x6_2).f1) t215 _ ?side1 ?side2 A9.out).mono ?_); (case side1 => repeat (first | exact (rR HO_3.out).2.2 | (with_reducible refine cA ?_ _) | (with_reducible refine cN ?_ _) | (with_reducible refine cD ?_))); (case side2 => exact (rR HO_3.out).2.1); rintro e w12 ⟨v216, rfl, ho0, hb⟩; refine ⟨_, rfl, ?_⟩; have HO217 := aM (Kd.R_lower (Kd.R_new' ho0 (Kd.R_lt (rl HO_3))) (below_size (bl))); replace HO_3 := aM (rE (rl HO_3) (Kd.R_base ho0) hb); replace HB := aM (bS (bl) hb); (try clear hb); (try clear hb2); (try clear hk); (try clear hi); (try clear ho0)))
           go_roundg k2
           case measure => have := HK1.out; have := HK2.out; omega
           case rel => exact ⟨(t215), (wrap64 (x6_2 + 1)), (by first | rfl | (simp; done) | (simp [*]; done)), H', ⟨by have := HK1.out; have := HK2.out; omega⟩, ⟨by (with_reducible repeat (first | apply rA | apply rN | apply rD)); exact rM HO217.out (fun _ hk => trivial)⟩, ⟨bl⟩⟩
          ·rw [if_neg c8] at H
           have c8b0 : (x6_2 == 0) = false := beq_eq_false_iff_ne.mpr c8
           have c8b1 : (x6_2 != 0) = true := bne_iff_ne.mpr c8
           by_cases c13 : x6_2 = (wrap64 ((((rd_T31 l0 x4_1).f1).length : Int) - 1))
           ·rw [if_pos c13] at H
            have c13b0 : (x6_2 == (wrap64 ((((rd_T31 l0 x4_1).f1).length : Int) - 1))) = true := beq_iff_eq.mpr c13
            have c13b1 : (x6_2 != (wrap64 ((((rd_T31 l0 x4_1).f1).length : Int) - 1))) = false := bne_eq_false_iff_eq.mpr c13
            clear c13
            replace H := Option.bind_eq_some_iff.mp H
            obtain ⟨t219, A140, H⟩ := H
            try dsimp only at H
            have A14 := aM A140
            clear A140
            have H' := aM H
            clear H
            have p212 : 0 ≤ (x6_2 : Int) := of_decide_eq_true (by first | (with_reducible assumption) | assumption)
            have q212 : x6_2 < (((rd_T31 l0 x4_1).f1).length : Int) := of_decide_eq_true (by first | (with_reducible assumption) | assumption)
            obtain ⟨ad212, e212, hx212_0, hx212_1⟩ := at_T40 HR211_1.out x6_2 p212 q212
            cases e212
            replace hx212_0 := (HB.out.cell (World.block_lt_of_cell? w _ hx212_0)).trans hx212_0
            replace hx212_1 := (HB.out.cell (World.block_lt_of_cell? w _ hx212_1)).trans hx212_1
            replace p212 := eq_true p212
            replace q212 := eq_true q212
            go_wp2_with (first | ((with_reducible refine gate_callee (f := 27) rfl ?_); refine goesL_ (some 28) rfl rfl Try.func27 (by kernel_rfl) rfl #[.agg #[.int .i64 ((rd_T40 ((rd_T31 l0 x4_1).f1) x6_2).f0), .int .i64 ((rd_T40 ((rd_T31 l0 x4_1).f1) x6_2).f1)]] rfl (by (try simp only [List.map_toArray, List.map_cons, List.map_nil]); first | done | rfl | (simp only [List.length_drop, List.length_take]; rfl)) ?_; (with_reducible refine (mapmakerref08_Valid.calls ((rd_T40 ((rd_T31 l0 x4_1).f1) x6_2).f0) ((rd_T40 ((rd_T31 l0 x4_1).f1) x6_2).f1) true _ A6.out).mono ?_); rintro e w15 ⟨rfl, hb⟩; refine ⟨_, rfl, ?_⟩; replace HO_3 := aM (rB (rl HO_3) hb); replace HB := aM (bS (bl) hb); (try clear hb); (try clear hb2); (try clear hk); (try clear hi); have p218 : 0 ≤ (x6_2 : Int) := of_decide_eq_true (by first | (with_reducible assumption) | assumption); have q218 : x6_2 < (((rd_T31 l0 x4_1).f1).length : Int) := of_decide_eq_true (by first | (with_reducible assumption) | assumption); obtain ⟨ad218, e218, hx218_0, hx218_1⟩ := at_T40 HR211_1.out x6_2 p218 q218; obtain rfl : ad212 = ad218 := (by injection e218); replace hx218_0 := (HB.out.cell (World.block_lt_of_cell? w _ hx218_0)).trans hx218_0; replace hx218_1 := (HB.out.cell (World.block_lt_of_cell? w _ hx218_1)).trans hx218_1; replace p218 := eq_true p218; replace q218 := eq_true q218; obtain ⟨Ao16, co16, eo16⟩ := Kd.R_slice HO_3.out; subst eo16) | ((with_reducible refine gate_callee (f := 29) rfl ?_); refine goesL_ (some 54) rfl rfl Try.func29 (by kernel_rfl) rfl #[.slice Ao16 x3_2.length co16, .agg #[.int .i64 ((rd_T40 ((rd_T31 l0 x4_1).f1) x6_2).f0), .int .i64 ((rd_T40 ((rd_T31 l0 x4_1).f1) x6_2).f1)]] rfl (by (try simp only [List.map_toArray, List.map_cons, List.map_nil]); first | done | rfl | (simp only [List.length_drop, List.length_take]; rfl)) ?_; (with_reducible refine (mapmakerref26_with.calls k2 _ _ x3_2 ((rd_T40 ((rd_T31 l0 x4_1).f1) x6_2).f0) ((rd_T40 ((rd_T31 l0 x4_1).f1) x6_2).f1) t219 _ ?side1 ?side2 A14.out).mono ?_); (case side1 => repeat (first | exact (rR HO_3.out).2.2 | (with_reducible refine cA ?_ _) | (with_reducible refine cN ?_ _) | (with_reducible refine cD ?_))); (case side2 => exact (rR HO_3.out).2.1); rintro e w17 ⟨v220, rfl, ho0, hb⟩; refine ⟨_, rfl, ?_⟩; have HO221 := aM (Kd.R_lower (Kd.R_new' ho0 (Kd.R_lt (rl HO_3))) (below_size (bl))); replace HO_3 := aM (rE (rl HO_3) (Kd.R_base ho0) hb); replace HB := aM (bS (bl) hb); (try clear hb); (try clear hb2); (try clear hk); (try clear hi); (try clear ho0)))
            go_roundg k2
            case measure => have := HK1.out; have := HK2.out; omega
            case rel => exact ⟨(t219), (wrap64 (x6_2 + 1)), (by first | rfl | (simp; done) | (simp [*]; done)), H', ⟨by have := HK1.out; have := HK2.out; omega⟩, ⟨by (with_reducible repeat (first | apply rA | apply rN | apply rD)); exact rM HO221.out (fun _ hk => trivial)⟩, ⟨bl⟩⟩
           ·rw [if_neg c13] at H
            have c13b0 : (x6_2 == (wrap64 ((((rd_T31 l0 x4_1).f1).length : Int) - 1))) = false := beq_eq_false_iff_ne.mpr c13
            have c13b1 : (x6_2 != (wrap64 ((((rd_T31 l0 x4_1).f1).length : Int) - 1))) = true := bne_iff_ne.mpr c13
            replace H := Option.bind_eq_some_iff.mp H
            obtain ⟨t223, A180, H⟩ := H
            try dsimp only at H
            have A18 := aM A180
            clear A180
            by_cases c19 : t223 > 1
            ·rw [if_pos c19] at H
             have c19b0 : decide (1 < t223) = true := decide_eq_true c19
             clear c19
             replace H := Option.bind_eq_some_iff.mp H
             obtain ⟨t225, A200, H⟩ := H
             try dsimp only at H
             have A20 := aM A200
             clear A200
             have H' := aM H
             clear H
             have p212 : 0 ≤ (x6_2 : Int) := of_decide_eq_true (by first | (with_reducible assumption) | assumption)
             have q212 : x6_2 < (((rd_T31 l0 x4_1).f1).length : Int) := of_decide_eq_true (by first | (with_reducible assumption) | assumption)
             obtain ⟨ad212, e212, hx212_0, hx212_1⟩ := at_T40 HR211_1.out x6_2 p212 q212
             cases e212
             replace hx212_0 := (HB.out.cell (World.block_lt_of_cell? w _ hx212_0)).trans hx212_0
             replace hx212_1 := (HB.out.cell (World.block_lt_of_cell? w _ hx212_1)).trans hx212_1
             replace p212 := eq_true p212
             replace q212 := eq_true q212
             go_wp2_with (first | ((with_reducible refine gate_callee (f := 27) rfl ?_); refine goesL_ (some 28) rfl rfl Try.func27 (by kernel_rfl) rfl #[.agg #[.int .i64 ((rd_T40 ((rd_T31 l0 x4_1).f1) x6_2).f0), .int .i64 ((rd_T40 ((rd_T31 l0 x4_1).f1) x6_2).f1)]] rfl (by (try simp only [List.map_toArray, List.map_cons, List.map_nil]); first | done | rfl | (simp only [List.length_drop, List.length_take]; rfl)) ?_; (with_reducible refine (mapmakerref08_Valid.calls ((rd_T40 ((rd_T31 l0 x4_1).f1) x6_2).f0) ((rd_T40 ((rd_T31 l0 x4_1).f1) x6_2).f1) true _ A6.out).mono ?_); rintro e w21 ⟨rfl, hb⟩; refine ⟨_, rfl, ?_⟩; replace HO_3 := aM (rB (rl HO_3) hb); replace HB := aM (bS (bl) hb); (try clear hb); (try clear hb2); (try clear hk); (try clear hi); have p222 : 0 ≤ (x6_2 : Int) := of_decide_eq_true (by first | (with_reducible assumption) | assumption); have q222 : x6_2 < (((rd_T31 l0 x4_1).f1).length : Int) := of_decide_eq_true (by first | (with_reducible assumption) | assumption); obtain ⟨ad222, e222, hx222_0, hx222_1⟩ := at_T40 HR211_1.out x6_2 p222 q222; obtain rfl : ad212 = ad222 := (by injection e222); replace hx222_0 := (HB.out.cell (World.block_lt_of_cell? w _ hx222_0)).trans hx222_0; replace hx222_1 := (HB.out.cell (World.block_lt_of_cell? w _ hx222_1)).trans hx222_1; replace p222 := eq_true p222; replace q222 := eq_true q222) | (go_at_call 28; (with_reducible refine (mapmakerref26_times.calls k2 _ _ l0 ((rd_T40 ((rd_T31 l0 x4_1).f1) x6_2).f0) ((rd_T40 ((rd_T31 l0 x4_1).f1) x6_2).f1) t223 _ ?side1 ?side2 A18.out).mono ?_); (case side1 => repeat (first | exact (Kd.C_below HR0.out HB.out) | (with_reducible refine cA ?_ _) | (with_reducible refine cN ?_ _) | (with_reducible refine cD ?_))); (case side2 => exact HC0.out); rintro e w22 ⟨rfl, hb⟩; replace HO_3 := aM (rB (rl HO_3) hb); replace HB := aM (bS (bl) hb); (try clear hb); (try clear hb2); (try clear hk); (try clear hi); have p224 : 0 ≤ (x6_2 : Int) := of_decide_eq_true (by first | (with_reducible assumption) | assumption); have q224 : x6_2 < (((rd_T31 l0 x4_1).f1).length : Int) := of_decide_eq_true (by first | (with_reducible assumption) | assumption); obtain ⟨ad224, e224, hx224_0, hx224_1⟩ := at_T40 HR211_1.out x6_2 p224 q224; obtain rfl : ad212 = ad224 := (by injection e224); replace hx224_0 := (HB.out.cell (World.block_lt_of_cell? w _ hx224_0)).trans hx224_0; replace hx224_1 := (HB.out.cell (World.block_lt_of_cell? w _ hx224_1)).trans hx224_1; replace p224 := eq_true p224; replace q224 := eq_true q224; obtain ⟨Ao23, co23, eo23⟩ := Kd.R_slice HO_3.out; subst eo23) | ((with_reducible refine gate_callee (f := 29) rfl ?_); refine goesL_ (some 54) rfl rfl Try.func29 (by kernel_rfl) rfl #[.slice Ao23 x3_2.length co23, .agg #[.int .i64 ((rd_T40 ((rd_T31 l0 x4_1).f1) x6_2).f0), .int .i64 ((rd_T40 ((rd_T31 l0 x4_1).f1) x6_2).f1)]] rfl (by (try simp only [List.map_toArray, List.map_cons, List.map_nil]); first | done | rfl | (simp only [List.length_drop, List.length_take]; rfl)) ?_; (with_reducible refine (mapmakerref26_with.calls k2 _ _ x3_2 ((rd_T40 ((rd_T31 l0 x4_1).f1) x6_2).f0) ((rd_T40 ((rd_T31 l0 x4_1).f1) x6_2).f1) t225 _ ?side1 ?side2 A20.out).mono ?_); (case side1 => repeat (first | exact (rR HO_3.out).2.2 | (with_reducible refine cA ?_ _) | (with_reducible refine cN ?_ _) | (with_reducible refine cD ?_))); (case side2 => exact (rR HO_3.out).2.1); rintro e w24 ⟨v226, rfl, ho0, hb⟩; refine ⟨_, rfl, ?_⟩; have HO227 := aM (Kd.R_lower (Kd.R_new' ho0 (Kd.R_lt (rl HO_3))) (below_size (bl))); replace HO_3 := aM (rE (rl HO_3) (Kd.R_base ho0) hb); replace HB := aM (bS (bl) hb); (try clear hb); (try clear hb2); (try clear hk); (try clear hi); (try clear ho0)))
             go_roundg k2
             case measure => have := HK1.out; have := HK2.out; omega
             case rel => exact ⟨(t225), (wrap64 (x6_2 + 1)), (by first | rfl | (simp; done) | (simp [*]; done)), H', ⟨by have := HK1.out; have := HK2.out; omega⟩, ⟨by (with_reducible repeat (first | apply rA | apply rN | apply rD)); exact rM HO227.out (fun _ hk => trivial)⟩, ⟨bl⟩⟩
            ·rw [if_neg c19] at H
             have c19b0 : decide (1 < t223) = false := decide_eq_false c19
             clear c19
             have H' := aM H
             clear H
             have p212 : 0 ≤ (x6_2 : Int) := of_decide_eq_true (by first | (with_reducible assumption) | assumption)
             have q212 : x6_2 < (((rd_T31 l0 x4_1).f1).length : Int) := of_decide_eq_true (by first | (with_reducible assumption) | assumption)
             obtain ⟨ad212, e212, hx212_0, hx212_1⟩ := at_T40 HR211_1.out x6_2 p212 q212
             cases e212
             replace hx212_0 := (HB.out.cell (World.block_lt_of_cell? w _ hx212_0)).trans hx212_0
             replace hx212_1 := (HB.out.cell (World.block_lt_of_cell? w _ hx212_1)).trans hx212_1
             replace p212 := eq_true p212
             replace q212 := eq_true q212
             go_wp2_with (first | ((with_reducible refine gate_callee (f := 27) rfl ?_); refine goesL_ (some 28) rfl rfl Try.func27 (by kernel_rfl) rfl #[.agg #[.int .i64 ((rd_T40 ((rd_T31 l0 x4_1).f1) x6_2).f0), .int .i64 ((rd_T40 ((rd_T31 l0 x4_1).f1) x6_2).f1)]] rfl (by (try simp only [List.map_toArray, List.map_cons, List.map_nil]); first | done | rfl | (simp only [List.length_drop, List.length_take]; rfl)) ?_; (with_reducible refine (mapmakerref08_Valid.calls ((rd_T40 ((rd_T31 l0 x4_1).f1) x6_2).f0) ((rd_T40 ((rd_T31 l0 x4_1).f1) x6_2).f1) true _ A6.out).mono ?_); rintro e w25 ⟨rfl, hb⟩; refine ⟨_, rfl, ?_⟩; replace HO_3 := aM (rB (rl HO_3) hb); replace HB := aM (bS (bl) hb); (try clear hb); (try clear hb2); (try clear hk); (try clear hi); have p222 : 0 ≤ (x6_2 : Int) := of_decide_eq_true (by first | (with_reducible assumption) | assumption); have q222 : x6_2 < (((rd_T31 l0 x4_1).f1).length : Int) := of_decide_eq_true (by first | (with_reducible assumption) | assumption); obtain ⟨ad222, e222, hx222_0, hx222_1⟩ := at_T40 HR211_1.out x6_2 p222 q222; obtain rfl : ad212 = ad222 := (by injection e222); replace hx222_0 := (HB.out.cell (World.block_lt_of_cell? w _ hx222_0)).trans hx222_0; replace hx222_1 := (HB.out.cell (World.block_lt_of_cell? w _ hx222_1)).trans hx222_1; replace p222 := eq_true p222; replace q222 := eq_true q222) | (go_at_call 28; (with_reducible refine (mapmakerref26_times.calls k2 _ _ l0 ((rd_T40 ((rd_T31 l0 x4_1).f1) x6_2).f0) ((rd_T40 ((rd_T31 l0 x4_1).f1) x6_2).f1) t223 _ ?side1 ?side2 A18.out).mono ?_); (case side1 => repeat (first | exact (Kd.C_below HR0.out HB.out) | (with_reducible refine cA ?_ _) | (with_reducible refine cN ?_ _) | (with_reducible refine cD ?_))); (case side2 => exact HC0.out); rintro e w26 ⟨rfl, hb⟩; replace HO_3 := aM (rB (rl HO_3) hb); replace HB := aM (bS (bl) hb); (try clear hb); (try clear hb2); (try clear hk); (try clear hi)))
             go_roundg k2
             case measure => have := HK1.out; have := HK2.out; omega
             case rel => exact ⟨(x3_2), (wrap64 (x6_2 + 1)), (by first | rfl | (simp; done) | (simp [*]; done)), H', ⟨by have := HK1.out; have := HK2.out; omega⟩, ⟨by (with_reducible repeat (first | apply rA | apply rN | apply rD)); exact HO_3.out⟩, ⟨bl⟩⟩
         ·replace c7 := Bool.eq_false_iff.mpr c7
          subst c7
          have H1 : (mapmakerref26_Fixed.l1 k2 l0 x3_2 x4_1 ((rd_T31 l0 x4_1).f1) (wrap64 (x6_2 + 1))) = some r := by rw [if_neg (show ¬ (false = true) by decide)] at H; exact H
          clear H
          have H := H1
          clear H1
          have H' := aM H
          clear H
          have p212 : 0 ≤ (x6_2 : Int) := of_decide_eq_true (by first | (with_reducible assumption) | assumption)
          have q212 : x6_2 < (((rd_T31 l0 x4_1).f1).length : Int) := of_decide_eq_true (by first | (with_reducible assumption) | assumption)
          obtain ⟨ad212, e212, hx212_0, hx212_1⟩ := at_T40 HR211_1.out x6_2 p212 q212
          cases e212
          replace hx212_0 := (HB.out.cell (World.block_lt_of_cell? w _ hx212_0)).trans hx212_0
          replace hx212_1 := (HB.out.cell (World.block_lt_of_cell? w _ hx212_1)).trans hx212_1
          replace p212 := eq_true p212
          replace q212 := eq_true q212
          go_wp2_with (first | ((with_reducible refine gate_callee (f := 27) rfl ?_); refine goesL_ (some 28) rfl rfl Try.func27 (by kernel_rfl) rfl #[.agg #[.int .i64 ((rd_T40 ((rd_T31 l0 x4_1).f1) x6_2).f0), .int .i64 ((rd_T40 ((rd_T31 l0 x4_1).f1) x6_2).f1)]] rfl (by (try simp only [List.map_toArray, List.map_cons, List.map_nil]); first | done | rfl | (simp only [List.length_drop, List.length_take]; rfl)) ?_; (with_reducible refine (mapmakerref08_Valid.calls ((rd_T40 ((rd_T31 l0 x4_1).f1) x6_2).f0) ((rd_T40 ((rd_T31 l0 x4_1).f1) x6_2).f1) false _ A6.out).mono ?_); rintro e w27 ⟨rfl, hb⟩; refine ⟨_, rfl, ?_⟩; replace HO_3 := aM (rB (rl HO_3) hb); replace HB := aM (bS (bl) hb); (try clear hb); (try clear hb2); (try clear hk); (try clear hi)))
          go_roundg k2
          case measure => have := HK1.out; have := HK2.out; omega
          case rel => exact ⟨(x3_2), (wrap64 (x6_2 + 1)), (by first | rfl | (simp; done) | (simp [*]; done)), H', ⟨by have := HK1.out; have := HK2.out; omega⟩, ⟨by (with_reducible repeat (first | apply rA | apply rN | apply rD)); exact HO_3.out⟩, ⟨bl⟩⟩
        ·rw [if_neg c5] at H
         exact absurd H (by simp)
       ·rw [if_neg c4] at H
        have c4b0 : decide (x6_2 < (((rd_T31 l0 x4_1).f1).length : Int)) = false := decide_eq_false c4
        clear c4
        have H' := aM H
        clear H
        go_wp2
        go_roundg k2
        case measure => have := HK1.out; have := HK2.out; omega
        case rel => exact ⟨(x3_2), (wrap64 (x4_1 + 1)), (by first | rfl | (simp; done) | (simp [*]; done)), H', ⟨by have := HK1.out; have := HK2.out; omega⟩, ⟨by (with_reducible repeat (first | apply rA | apply rN | apply rD)); exact HO_3.out⟩, ⟨bl⟩⟩
    ·rw [if_neg c3] at H
     exact absurd H (by simp)
   ·rw [if_neg c2] at H
    have c2b0 : decide (x4_1 < (l0.length : Int)) = false := decide_eq_false c2
    clear c2
    obtain rfl := Option.some.inj H
    go_wp2
    go_ret
    exact ⟨_, by first | rfl | (simp [errW_none, errW_some] <;> rfl) | (simp [*, errW_none, errW_some] <;> rfl), by (with_reducible repeat (first | apply rA | apply rN | apply rD)); exact HO_3.out, bl⟩
end Go.Proofs.Ytpgbfjndgbfhnaa.PAll
