-- out of a driver of this session's prover over the kit's print: Lean checks it
import Derived.Test.YtpgbfjndgbfhnaaPAllx0
import Derived.Test.YtpgbfjndgbfhnaaPAllx1
import Derived.Test.YtpgbfjndgbfhnaaPAllx3
namespace Go.Proofs.Ytpgbfjndgbfhnaa.PAll
open Go.Proofs.YtpgbfjndgbfhnaaG Go.Shelf Go.Lib
open Go.RowKit Go.Proofs.YtpgbfjndgbfhnaaW.PrintWords Go.Proofs.YtpgbfjndgbfhnaaW.PrintLast Go.Proofs.YtpgbfjndgbfhnaaW.PrintMore
attribute [local go_sem] max2_int min2_int max_two min_two max_three min_three max_four min_four   -- for this text's walks alone
set_option linter.unusedVariables false
set_option linter.unusedSimpArgs false
attribute [local go_sem high] eqA40
def seg_valid.l0 : Nat → List (S40) → Int → Int → Option (Bool)
 | 0, _, _, _ => none
 | k + 1, x5, x6, x7 => if x7 < x6 then (if 0 ≤ x7 then (if x7 < (x5.length : Int) then ((grid_Valid.f ((rd_T40 x5 x7).f0) ((rd_T40 x5 x7).f1)).bind fun t124 => (if t124 = true then (seg_valid.l0 k x5 x6 (wrap64 (x7 + 1))) else (some false))) else (none)) else (none)) else (some true)
def seg_valid.f (k : Nat) (l0 : List (S40)) : Option (Bool) := seg_valid.l0 k l0 (l0.length : Int) 0
theorem seg_valid.mono_l : ∀ k, (∀ y0 y1 y2, LeO (seg_valid.l0 k y0 y1 y2) (seg_valid.l0 (k + 1) y0 y1 y2))
 | 0 => fun _ _ _ r h => by simp [seg_valid.l0] at h
 | k + 1 => by
  have ih0 := seg_valid.mono_l k
  ·intro y0 y1 y2
   unfold seg_valid.l0
   repeat' first
   | (with_reducible exact ih0 _ _ _)
   | (with_reducible exact LeO.refl _)
   | (with_reducible exact LeO.none _)
   | (with_reducible refine LeO.ite ?_ ?_)
   | (with_reducible refine LeO.bind ?_ (fun _ => ?_))
   | exact ih0 _ _ _
   | exact LeO.none _
   | refine LeO.ite ?_ ?_
   | refine LeO.bind ?_ (fun _ => ?_)
theorem seg_valid.mono : ∀ a0 k, LeO (seg_valid.f k a0) (seg_valid.f (k + 1) a0) := by
 intro a0 k
 have ih0 := seg_valid.mono_l k
 unfold seg_valid.f
 repeat' first
   | (with_reducible exact ih0 _ _ _)
   | (with_reducible exact LeO.refl _)
   | (with_reducible exact LeO.none _)
   | (with_reducible refine LeO.ite ?_ ?_)
   | (with_reducible refine LeO.bind ?_ (fun _ => ?_))
   | exact ih0 _ _ _
   | exact LeO.none _
   | refine LeO.ite ?_ ?_
   | refine LeO.bind ?_ (fun _ => ?_)
set_option maxHeartbeats 8000000 in
set_option maxRecDepth 100000 in
theorem seg_valid.calls (k : Nat) (A0 : Option Addr) (c0 : Nat) (l0 : List (S40)) (r : Bool) (w : World) (hr0 : Kd.C k40 w A0 l0.length l0) (hc0 : l0.length ≤ c0) (h : seg_valid.f k l0 = some r) :
  Calls Try.prog 58 #[.slice A0 l0.length c0] w fun e w' => e = .returned (.bool r) ∧ Below w.heap.size w w' := by
 have hu40 := Try.underlying40
 have HR0 := aM hr0
 have HC0 := aM hc0
 clear hr0 hc0
 have HB := aM (Below.refl w.heap.size w)
 have H : (seg_valid.l0 k l0 (l0.length : Int) 0) = some r := h
 clear h
 have H' := aM H
 clear H
 go_enter Try.func58, Try.ntmps58
 go_wp2
 go_loopg [7] k (fun kq v7 w' => ∃ (x7_1 : Int), v7 = .int .i64 x7_1 ∧ Aside0 (seg_valid.l0 kq l0 (l0.length : Int) x7_1 = some r) ∧ Aside0 (kq ≤ k) ∧ Aside0 (Below w.heap.size w w'))
 case atStart => exact ⟨(0), (by first | rfl | (simp; done) | (simp [*]; done)), H', ⟨Nat.le_refl _⟩, ⟨bl⟩⟩
 case round =>
  clear H'
  obtain ⟨x7_1, rfl, HA, HK1, HB⟩ := hrel
  cases gk with
  | zero => exact absurd HA.out (by simp [seg_valid.l0])
  | succ k1 =>
   have H := HA.out
   clear HA
   simp only [seg_valid.l0] at H
   by_cases c2 : x7_1 < (l0.length : Int)
   ·rw [if_pos c2] at H
    have c2b0 : decide (x7_1 < (l0.length : Int)) = true := decide_eq_true c2
    clear c2
    by_cases c3 : 0 ≤ x7_1
    ·rw [if_pos c3] at H
     have c3b0 : decide (0 ≤ x7_1) = true := decide_eq_true c3
     clear c3
     by_cases c4 : x7_1 < (l0.length : Int)
     ·rw [if_pos c4] at H
      have c4b0 : decide (x7_1 < (l0.length : Int)) = true := decide_eq_true c4
      clear c4
      replace H := Option.bind_eq_some_iff.mp H
      obtain ⟨t124, A50, H⟩ := H
      try dsimp only at H
      have A5 := aM A50
      clear A50
      by_cases c6 : t124 = true
      ·subst c6
       have H1 : (seg_valid.l0 k1 l0 (l0.length : Int) (wrap64 (x7_1 + 1))) = some r := by rw [if_pos rfl] at H; exact H
       clear H
       have H := H1
       clear H1
       have H' := aM H
       clear H
       have p122 : 0 ≤ (x7_1 : Int) := of_decide_eq_true (by first | (with_reducible assumption) | assumption)
       have q122 : x7_1 < (l0.length : Int) := of_decide_eq_true (by first | (with_reducible assumption) | assumption)
       obtain ⟨ad122, e122, hx122_0, hx122_1⟩ := at_T40 HR0.out x7_1 p122 q122
       cases e122
       replace hx122_0 := (HB.out.cell (World.block_lt_of_cell? w _ hx122_0)).trans hx122_0
       replace hx122_1 := (HB.out.cell (World.block_lt_of_cell? w _ hx122_1)).trans hx122_1
       replace p122 := eq_true p122
       replace q122 := eq_true q122
       go_wp2_with (first | ((with_reducible refine gate_dst (N := 4) rfl ?_); refine box_event ?hg (N := 4) ?hd (cs := #[.int .i64 0, .int .i64 0]) (t := 40) ?hr ?_; (case hd => rfl); (case hg => rfl); (case hr => first | (go_simp; done) | (go_simp; rfl)); intro gb123 hg w7 hbox hb; have n0_ := aM (bS (bl) hb); have n1_ := aM (hbox); have n2_ := aM ((by rw [hg]; exact (below_size (bl)) : w.heap.size ≤ gb123)); have n3_ := aM ((by rw [hg]; exact (below_size (bl)) : w.heap.size ≤ gb123)); clear HB; have HB := n0_; have BK123 := n1_; have GW123 := n2_; have GE123 := n3_; clear n0_ n1_ n2_ n3_ hb hbox hg; have hcz8_0 : w7.cell? ⟨gb123, 0, none⟩ = some (.int .i64 0) := (kC BK123.out 0).trans rfl; have hcz8_1 : w7.cell? ⟨gb123, 1, none⟩ = some (.int .i64 0) := (kC BK123.out 1).trans rfl; have hfz8_0 := kF BK123.out 0; have hfz8_1 := kF BK123.out 1) | ((with_reducible refine gate_callee (f := 23) rfl ?_); refine goesL_ (some 12) rfl rfl Try.func23 (by kernel_rfl) rfl #[.agg #[.int .i64 ((rd_T40 l0 x7_1).f0), .int .i64 ((rd_T40 l0 x7_1).f1)]] rfl (by (try simp only [List.map_toArray, List.map_cons, List.map_nil]); first | done | rfl | (simp only [List.length_drop, List.length_take]; rfl)) ?_; (with_reducible refine (grid_Valid.calls ((rd_T40 l0 x7_1).f0) ((rd_T40 l0 x7_1).f1) true _ A5.out).mono ?_); rintro e w9 ⟨rfl, hb⟩; refine ⟨_, rfl, ?_⟩; have n0_ := aM (kB (g := gb123) (o := .cells #[.int .i64 ((rd_T40 l0 x7_1).f0), .int .i64 ((rd_T40 l0 x7_1).f1)] 40 (0, 0)) (by (with_reducible repeat (first | refine kN ?_ _ | refine kD ?_ | refine kA ?_ _)); refine kP (cs := #[.int .i64 ((rd_T40 l0 x7_1).f0), .int .i64 0]) ?_ 1 _ rfl; (with_reducible repeat (first | refine kN ?_ _ | refine kD ?_ | refine kA ?_ _)); refine kP (cs := #[.int .i64 0, .int .i64 0]) ?_ 0 _ rfl; (with_reducible repeat (first | refine kN ?_ _ | refine kD ?_ | refine kA ?_ _)); exact BK123.out) hb); have n1_ := aM (bS (bl) hb); clear BK123 HB; have BK123 := n0_; have HB := n1_; clear n0_ n1_; (try clear hb); (try clear hb2); (try clear hk); (try clear hi)))
       go_roundg k1
       case measure => have := HK1.out; omega
       case rel => exact ⟨(wrap64 (x7_1 + 1)), (by first | rfl | (simp; done) | (simp [*]; done)), H', ⟨by have := HK1.out; omega⟩, ⟨bl⟩⟩
      ·replace c6 := Bool.eq_false_iff.mpr c6
       subst c6
       have H1 : (some false) = some r := by rw [if_neg (show ¬ (false = true) by decide)] at H; exact H
       clear H
       have H := H1
       clear H1
       obtain rfl := Option.some.inj H
       have p122 : 0 ≤ (x7_1 : Int) := of_decide_eq_true (by first | (with_reducible assumption) | assumption)
       have q122 : x7_1 < (l0.length : Int) := of_decide_eq_true (by first | (with_reducible assumption) | assumption)
       obtain ⟨ad122, e122, hx122_0, hx122_1⟩ := at_T40 HR0.out x7_1 p122 q122
       cases e122
       replace hx122_0 := (HB.out.cell (World.block_lt_of_cell? w _ hx122_0)).trans hx122_0
       replace hx122_1 := (HB.out.cell (World.block_lt_of_cell? w _ hx122_1)).trans hx122_1
       replace p122 := eq_true p122
       replace q122 := eq_true q122
       go_wp2_with (first | ((with_reducible refine gate_dst (N := 4) rfl ?_); refine box_event ?hg (N := 4) ?hd (cs := #[.int .i64 0, .int .i64 0]) (t := 40) ?hr ?_; (case hd => rfl); (case hg => rfl); (case hr => first | (go_simp; done) | (go_simp; rfl)); intro gb123 hg w10 hbox hb; have n0_ := aM (bS (bl) hb); have n1_ := aM (hbox); have n2_ := aM ((by rw [hg]; exact (below_size (bl)) : w.heap.size ≤ gb123)); have n3_ := aM ((by rw [hg]; exact (below_size (bl)) : w.heap.size ≤ gb123)); clear HB; have HB := n0_; have BK123 := n1_; have GW123 := n2_; have GE123 := n3_; clear n0_ n1_ n2_ n3_ hb hbox hg; have hcz11_0 : w10.cell? ⟨gb123, 0, none⟩ = some (.int .i64 0) := (kC BK123.out 0).trans rfl; have hcz11_1 : w10.cell? ⟨gb123, 1, none⟩ = some (.int .i64 0) := (kC BK123.out 1).trans rfl; have hfz11_0 := kF BK123.out 0; have hfz11_1 := kF BK123.out 1) | ((with_reducible refine gate_callee (f := 23) rfl ?_); refine goesL_ (some 12) rfl rfl Try.func23 (by kernel_rfl) rfl #[.agg #[.int .i64 ((rd_T40 l0 x7_1).f0), .int .i64 ((rd_T40 l0 x7_1).f1)]] rfl (by (try simp only [List.map_toArray, List.map_cons, List.map_nil]); first | done | rfl | (simp only [List.length_drop, List.length_take]; rfl)) ?_; (with_reducible refine (grid_Valid.calls ((rd_T40 l0 x7_1).f0) ((rd_T40 l0 x7_1).f1) false _ A5.out).mono ?_); rintro e w12 ⟨rfl, hb⟩; refine ⟨_, rfl, ?_⟩; have n0_ := aM (kB (g := gb123) (o := .cells #[.int .i64 ((rd_T40 l0 x7_1).f0), .int .i64 ((rd_T40 l0 x7_1).f1)] 40 (0, 0)) (by (with_reducible repeat (first | refine kN ?_ _ | refine kD ?_ | refine kA ?_ _)); refine kP (cs := #[.int .i64 ((rd_T40 l0 x7_1).f0), .int .i64 0]) ?_ 1 _ rfl; (with_reducible repeat (first | refine kN ?_ _ | refine kD ?_ | refine kA ?_ _)); refine kP (cs := #[.int .i64 0, .int .i64 0]) ?_ 0 _ rfl; (with_reducible repeat (first | refine kN ?_ _ | refine kD ?_ | refine kA ?_ _)); exact BK123.out) hb); have n1_ := aM (bS (bl) hb); clear BK123 HB; have BK123 := n0_; have HB := n1_; clear n0_ n1_; (try clear hb); (try clear hb2); (try clear hk); (try clear hi)))
       go_ret
       exact ⟨by first | rfl | (simp [errW_none, errW_some] <;> rfl) | (simp [*, errW_none, errW_some] <;> rfl), bl⟩
     ·rw [if_neg c4] at H
      exact absurd H (by simp)
    ·rw [if_neg c3] at H
     exact absurd H (by simp)
   ·rw [if_neg c2] at H
    have c2b0 : decide (x7_1 < (l0.length : Int)) = false := decide_eq_false c2
    clear c2
    obtain rfl := Option.some.inj H
    go_wp2
    go_ret
    exact ⟨by first | rfl | (simp [errW_none, errW_some] <;> rfl) | (simp [*, errW_none, errW_some] <;> rfl), bl⟩
def seg_Turn.f (k : Nat) (a0_0 : Int) (a0_1 : Int) (a1_0 : Int) (a1_1 : Int) (a2_0 : Int) (a2_1 : Int) : Option (Int) := (seg_valid.f k (([(⟨a0_0, a0_1⟩ : S40), (⟨a1_0, a1_1⟩ : S40), (⟨a2_0, a2_1⟩ : S40)] : List (S40)))).bind fun t131 => (if t131 = true then (some (wrap64 ((wrap64 ((wrap64 (a1_0 - a0_0)) * (wrap64 (a2_1 - a0_1)))) - (wrap64 ((wrap64 (a1_1 - a0_1)) * (wrap64 (a2_0 - a0_0))))))) else (some 0))
theorem seg_Turn.mono : ∀ a0 a1 a2 a3 a4 a5 k, LeO (seg_Turn.f k a0 a1 a2 a3 a4 a5) (seg_Turn.f (k + 1) a0 a1 a2 a3 a4 a5) := by
 intro a0 a1 a2 a3 a4 a5 k
 unfold seg_Turn.f
 repeat' first
   | (with_reducible exact seg_valid.mono _ _)
   | (with_reducible exact LeO.refl _)
   | (with_reducible exact LeO.none _)
   | (with_reducible refine LeO.ite ?_ ?_)
   | (with_reducible refine LeO.bind ?_ (fun _ => ?_))
   | exact seg_valid.mono _ _
   | exact LeO.none _
   | refine LeO.ite ?_ ?_
   | refine LeO.bind ?_ (fun _ => ?_)
set_option maxHeartbeats 8000000 in
set_option maxRecDepth 100000 in
theorem seg_Turn.calls (k : Nat) (a0_0 : Int) (a0_1 : Int) (a1_0 : Int) (a1_1 : Int) (a2_0 : Int) (a2_1 : Int) (r : Int) (w : World) (h : seg_Turn.f k a0_0 a0_1 a1_0 a1_1 a2_0 a2_1 = some r) :
  Calls Try.prog 45 #[.agg #[.int .i64 a0_0, .int .i64 a0_1], .agg #[.int .i64 a1_0, .int .i64 a1_1], .agg #[.int .i64 a2_0, .int .i64 a2_1]] w fun e w' => e = .returned (.int .i64 r) ∧ Below w.heap.size w w' := by
 have hu40 := Try.underlying40
 have HB := aM (Below.refl w.heap.size w)
 have H : ((seg_valid.f k (([(⟨a0_0, a0_1⟩ : S40), (⟨a1_0, a1_1⟩ : S40), (⟨a2_0, a2_1⟩ : S40)] : List (S40)))).bind fun t131 => (if t131 = true then (some (wrap64 ((wrap64 ((wrap64 (a1_0 - a0_0)) * (wrap64 (a2_1 - a0_1)))) - (wrap64 ((wrap64 (a1_1 - a0_1)) * (wrap64 (a2_0 - a0_0))))))) else (some 0))) = some r := h
 clear h
 obtain ⟨y128, hy128⟩ : ∃ y_ : List (S40), y_ = (([(⟨a0_0, a0_1⟩ : S40), (⟨a1_0, a1_1⟩ : S40), (⟨a2_0, a2_1⟩ : S40)] : List (S40))) := ⟨_, rfl⟩
 replace H : ((seg_valid.f k y128).bind fun t131 => (if t131 = true then (some (wrap64 ((wrap64 ((wrap64 (a1_0 - a0_0)) * (wrap64 (a2_1 - a0_1)))) - (wrap64 ((wrap64 (a1_1 - a0_1)) * (wrap64 (a2_0 - a0_0))))))) else (some 0))) = some r := by first | (rw [hy128]; with_reducible exact H) | (have H2_ := (Option.bind_some _ _).symm.trans H; rw [hy128]; with_reducible exact H2_) | (have H2_ := (Option.bind_some _ _).symm.trans H; with_reducible exact H2_) | with_reducible exact H | (rw [hy128]; exact H) | exact H
 have Ny128 := aM hy128
 clear hy128
 replace H := Option.bind_eq_some_iff.mp H
 obtain ⟨t131, A40, H⟩ := H
 try dsimp only at H
 have A4 := aM A40
 clear A40
 by_cases c5 : t131 = true
 ·subst c5
  have H1 : (some (wrap64 ((wrap64 ((wrap64 (a1_0 - a0_0)) * (wrap64 (a2_1 - a0_1)))) - (wrap64 ((wrap64 (a1_1 - a0_1)) * (wrap64 (a2_0 - a0_0))))))) = some r := by rw [if_pos rfl] at H; exact H
  clear H
  have H := H1
  clear H1
  obtain rfl := Option.some.inj H
  go_enter Try.func45, Try.ntmps45
  go_wp2_with (first | ((with_reducible refine gate_dst (N := 3) rfl ?_); refine box_event ?hg (N := 3) ?hd (cs := #[.int .i64 a0_0, .int .i64 a0_1]) (t := 40) ?hr ?_; (case hd => rfl); (case hg => rfl); (case hr => first | (go_simp; done) | (go_simp; rfl)); intro gb125 hg w6 hbox hb; have n0_ := aM (bS (bl) hb); have n1_ := aM (hbox); have n2_ := aM ((by rw [hg]; exact (below_size (bl)) : w.heap.size ≤ gb125)); have n3_ := aM ((by rw [hg]; exact (below_size (bl)) : w.heap.size ≤ gb125)); clear HB; have HB := n0_; have BK125 := n1_; have GW125 := n2_; have GE125 := n3_; clear n0_ n1_ n2_ n3_ hb hbox hg) | ((with_reducible refine gate_dst (N := 4) rfl ?_); refine box_event ?hg (N := 4) ?hd (cs := #[.int .i64 a1_0, .int .i64 a1_1]) (t := 40) ?hr ?_; (case hd => rfl); (case hg => rfl); (case hr => first | (go_simp; done) | (go_simp; rfl)); intro gb126 hg w7 hbox hb; have n0_ := aM (kB (g := gb125) (o := .cells #[.int .i64 a0_0, .int .i64 a0_1] 40 (0, 0)) (kl BK125) hb); have n1_ := aM (bS (bl) hb); have n2_ := aM (hbox); have n3_ := aM ((by rw [hg]; exact (below_size (bl)) : w.heap.size ≤ gb126)); have n4_ := aM ((by rw [hg]; exact (below_size (bl)) : w.heap.size ≤ gb126)); have n5_ := aM ((by rw [hg]; exact Nat.ne_of_lt (blk_lt (g := gb125) (o := .cells #[.int .i64 a0_0, .int .i64 a0_1] 40 (0, 0)) (kl BK125)) : gb125 ≠ gb126)); have n6_ := aM ((by rw [hg]; exact Nat.ne_of_gt (blk_lt (g := gb125) (o := .cells #[.int .i64 a0_0, .int .i64 a0_1] 40 (0, 0)) (kl BK125)) : gb126 ≠ gb125)); clear BK125 HB; have BK125 := n0_; have HB := n1_; have BK126 := n2_; have GW126 := n3_; have GE126 := n4_; have NB125_126 := n5_; have NB126_125 := n6_; clear n0_ n1_ n2_ n3_ n4_ n5_ n6_ hb hbox hg) | ((with_reducible refine gate_dst (N := 5) rfl ?_); refine box_event ?hg (N := 5) ?hd (cs := #[.int .i64 a2_0, .int .i64 a2_1]) (t := 40) ?hr ?_; (case hd => rfl); (case hg => rfl); (case hr => first | (go_simp; done) | (go_simp; rfl)); intro gb127 hg w8 hbox hb; have n0_ := aM (kB (g := gb125) (o := .cells #[.int .i64 a0_0, .int .i64 a0_1] 40 (0, 0)) (kl BK125) hb); have n1_ := aM (kB (g := gb126) (o := .cells #[.int .i64 a1_0, .int .i64 a1_1] 40 (0, 0)) (kl BK126) hb); have n2_ := aM (bS (bl) hb); have n3_ := aM (hbox); have n4_ := aM ((by rw [hg]; exact (below_size (bl)) : w.heap.size ≤ gb127)); have n5_ := aM ((by rw [hg]; exact (below_size (bl)) : w.heap.size ≤ gb127)); have n6_ := aM ((by rw [hg]; exact Nat.ne_of_lt (blk_lt (g := gb125) (o := .cells #[.int .i64 a0_0, .int .i64 a0_1] 40 (0, 0)) (kl BK125)) : gb125 ≠ gb127)); have n7_ := aM ((by rw [hg]; exact Nat.ne_of_gt (blk_lt (g := gb125) (o := .cells #[.int .i64 a0_0, .int .i64 a0_1] 40 (0, 0)) (kl BK125)) : gb127 ≠ gb125)); have n8_ := aM ((by rw [hg]; exact Nat.ne_of_lt (blk_lt (g := gb126) (o := .cells #[.int .i64 a1_0, .int .i64 a1_1] 40 (0, 0)) (kl BK126)) : gb126 ≠ gb127)); have n9_ := aM ((by rw [hg]; exact Nat.ne_of_gt (blk_lt (g := gb126) (o := .cells #[.int .i64 a1_0, .int .i64 a1_1] 40 (0, 0)) (kl BK126)) : gb127 ≠ gb126)); clear BK125 BK126 HB; have BK125 := n0_; have BK126 := n1_; have HB := n2_; have BK127 := n3_; have GW127 := n4_; have GE127 := n5_; have NB125_127 := n6_; have NB127_125 := n7_; have NB126_127 := n8_; have NB127_126 := n9_; clear n0_ n1_ n2_ n3_ n4_ n5_ n6_ n7_ n8_ n9_ hb hbox hg; have hnb9 := NB125_126.out; have hnc9 := NB126_125.out; have hnb10 := NB125_127.out; have hnc10 := NB127_125.out; have hcz11_0 : w8.cell? ⟨gb125, 0, none⟩ = some (.int .i64 a0_0) := (kC BK125.out 0).trans rfl; have hcz11_1 : w8.cell? ⟨gb125, 1, none⟩ = some (.int .i64 a0_1) := (kC BK125.out 1).trans rfl; have hfz11_0 := kF BK125.out 0; have hfz11_1 := kF BK125.out 1; have hnb12 := NB126_127.out; have hnc12 := NB127_126.out; have hcz13_0 : w8.cell? ⟨gb126, 0, none⟩ = some (.int .i64 a1_0) := (kC BK126.out 0).trans rfl; have hcz13_1 : w8.cell? ⟨gb126, 1, none⟩ = some (.int .i64 a1_1) := (kC BK126.out 1).trans rfl; have hfz13_0 := kF BK126.out 0; have hfz13_1 := kF BK126.out 1; have hcz14_0 : w8.cell? ⟨gb127, 0, none⟩ = some (.int .i64 a2_0) := (kC BK127.out 0).trans rfl; have hcz14_1 : w8.cell? ⟨gb127, 1, none⟩ = some (.int .i64 a2_1) := (kC BK127.out 1).trans rfl; have hfz14_0 := kF BK127.out 0; have hfz14_1 := kF BK127.out 1) | ((with_reducible refine gate_dst (N := 10) rfl ?_); refine Kd.R_lit k40 _ 40 ?hg (N := 10) ?hd (xs := ([(⟨a0_0, a0_1⟩ : S40), (⟨a1_0, a1_1⟩ : S40), (⟨a2_0, a2_1⟩ : S40)] : List (S40))) (inner := [.int .i64 a0_0, .int .i64 a0_1, .int .i64 a1_0, .int .i64 a1_1, .int .i64 a2_0, .int .i64 a2_1]) (ok := fun _ => True) (okp := fun _ => True) ?hr ?hp (fun _ hk => hk) trivial (Below.refl _ _) (Nat.le_refl _) (by simp) ?_; (case hd => rfl); (case hg => rfl); (case hr => first | (go_simp; done) | (go_simp; rfl)); (case hp => exact (Reps.c2 (show Kd.M k40 _ _ _ (⟨a0_0, a0_1⟩ : S40) [.int .i64 a0_0, .int .i64 a0_1] from (k40_mkM _ _ _ (⟨a0_0, a0_1⟩ : S40) )) (Reps.c2 (show Kd.M k40 _ _ _ (⟨a1_0, a1_1⟩ : S40) [.int .i64 a1_0, .int .i64 a1_1] from (k40_mkM _ _ _ (⟨a1_0, a1_1⟩ : S40) )) (Reps.c2 (show Kd.M k40 _ _ _ (⟨a2_0, a2_1⟩ : S40) [.int .i64 a2_0, .int .i64 a2_1] from (k40_mkM _ _ _ (⟨a2_0, a2_1⟩ : S40) )) (Reps.none _ _))))); intro v129 w15 ho16 hb hg_ hnew_; clear hg_ hnew_; (first | rw [← Ny128.out] at ho16 | (simp only [Int.reduceToNat] at ho16; rw [← Ny128.out] at ho16)); have n0_ := aM (Kd.R_lower (Kd.R_newB (Kd.R_newB (Kd.R_newB ho16 (g := gb125) (o := .cells #[.int .i64 a0_0, .int .i64 a0_1] 40 (0, 0)) (kl BK125)) (g := gb126) (o := .cells #[.int .i64 a1_0, .int .i64 a1_1] 40 (0, 0)) (kl BK126)) (g := gb127) (o := .cells #[.int .i64 a2_0, .int .i64 a2_1] 40 (0, 0)) (kl BK127)) (below_size (bl))); have n1_ := aM (kB (g := gb125) (o := .cells #[.int .i64 a0_0, .int .i64 a0_1] 40 (0, 0)) (kl BK125) hb); have n2_ := aM (kB (g := gb126) (o := .cells #[.int .i64 a1_0, .int .i64 a1_1] 40 (0, 0)) (kl BK126) hb); have n3_ := aM (kB (g := gb127) (o := .cells #[.int .i64 a2_0, .int .i64 a2_1] 40 (0, 0)) (kl BK127) hb); have n4_ := aM (bS (bl) hb); clear BK125 BK126 BK127 HB; have HO130 := n0_; have BK125 := n1_; have BK126 := n2_; have BK127 := n3_; have HB := n4_; clear n0_ n1_ n2_ n3_ n4_ hb ho16; obtain ⟨Ao17, co17, eo17⟩ := Kd.R_slice HO130.out; subst eo17) | ((with_reducible refine gate_callee (f := 58) rfl ?_); refine goesL_ (some 11) rfl rfl Try.func58 (by kernel_rfl) rfl #[.slice Ao17 y128.length co17] rfl (by (try simp only [List.map_toArray, List.map_cons, List.map_nil]); first | done | rfl | (simp only [List.length_drop, List.length_take]; rfl)) ?_; (with_reducible refine (seg_valid.calls k _ _ y128 true _ ?side1 ?side2 A4.out).mono ?_); (case side1 => repeat (first | exact (rR HO130.out).2.2 | (with_reducible refine cA ?_ _) | (with_reducible refine cN ?_ _) | (with_reducible refine cD ?_))); (case side2 => exact (rR HO130.out).2.1); rintro e w18 ⟨rfl, hb⟩; refine ⟨_, rfl, ?_⟩; have n0_ := aM (rB (rl HO130) hb); have n1_ := aM (kB (g := gb125) (o := .cells #[.int .i64 a0_0, .int .i64 a0_1] 40 (0, 0)) (kl BK125) hb); have n2_ := aM (kB (g := gb126) (o := .cells #[.int .i64 a1_0, .int .i64 a1_1] 40 (0, 0)) (kl BK126) hb); have n3_ := aM (kB (g := gb127) (o := .cells #[.int .i64 a2_0, .int .i64 a2_1] 40 (0, 0)) (kl BK127) hb); have n4_ := aM (bS (bl) hb); clear HO130 BK125 BK126 BK127 HB; have HO130 := n0_; have BK125 := n1_; have BK126 := n2_; have BK127 := n3_; have HB := n4_; clear n0_ n1_ n2_ n3_ n4_; (try clear hb); (try clear hb2); (try clear hk); (try clear hi); have hcz19_0 : w18.cell? ⟨gb126, 0, none⟩ = some (.int .i64 a1_0) := (kC BK126.out 0).trans rfl; have hcz19_1 : w18.cell? ⟨gb126, 1, none⟩ = some (.int .i64 a1_1) := (kC BK126.out 1).trans rfl; have hfz19_0 := kF BK126.out 0; have hfz19_1 := kF BK126.out 1; have hcz20_0 : w18.cell? ⟨gb125, 0, none⟩ = some (.int .i64 a0_0) := (kC BK125.out 0).trans rfl; have hcz20_1 : w18.cell? ⟨gb125, 1, none⟩ = some (.int .i64 a0_1) := (kC BK125.out 1).trans rfl; have hfz20_0 := kF BK125.out 0; have hfz20_1 := kF BK125.out 1; have hcz21_0 : w18.cell? ⟨gb127, 0, none⟩ = some (.int .i64 a2_0) := (kC BK127.out 0).trans rfl; have hcz21_1 : w18.cell? ⟨gb127, 1, none⟩ = some (.int .i64 a2_1) := (kC BK127.out 1).trans rfl; have hfz21_0 := kF BK127.out 0; have hfz21_1 := kF BK127.out 1))
  go_ret
  exact ⟨by first | rfl | (simp [errW_none, errW_some] <;> rfl) | (simp [*, errW_none, errW_some] <;> rfl), bl⟩
 ·replace c5 := Bool.eq_false_iff.mpr c5
  subst c5
  have H1 : (some 0) = some r := by rw [if_neg (show ¬ (false = true) by decide)] at H; exact H
  clear H
  have H := H1
  clear H1
  obtain rfl := Option.some.inj H
  go_enter Try.func45, Try.ntmps45
  go_wp2_with (first | ((with_reducible refine gate_dst (N := 3) rfl ?_); refine box_event ?hg (N := 3) ?hd (cs := #[.int .i64 a0_0, .int .i64 a0_1]) (t := 40) ?hr ?_; (case hd => rfl); (case hg => rfl); (case hr => first | (go_simp; done) | (go_simp; rfl)); intro gb125 hg w22 hbox hb; have n0_ := aM (bS (bl) hb); have n1_ := aM (hbox); have n2_ := aM ((by rw [hg]; exact (below_size (bl)) : w.heap.size ≤ gb125)); have n3_ := aM ((by rw [hg]; exact (below_size (bl)) : w.heap.size ≤ gb125)); clear HB; have HB := n0_; have BK125 := n1_; have GW125 := n2_; have GE125 := n3_; clear n0_ n1_ n2_ n3_ hb hbox hg) | ((with_reducible refine gate_dst (N := 4) rfl ?_); refine box_event ?hg (N := 4) ?hd (cs := #[.int .i64 a1_0, .int .i64 a1_1]) (t := 40) ?hr ?_; (case hd => rfl); (case hg => rfl); (case hr => first | (go_simp; done) | (go_simp; rfl)); intro gb126 hg w23 hbox hb; have n0_ := aM (kB (g := gb125) (o := .cells #[.int .i64 a0_0, .int .i64 a0_1] 40 (0, 0)) (kl BK125) hb); have n1_ := aM (bS (bl) hb); have n2_ := aM (hbox); have n3_ := aM ((by rw [hg]; exact (below_size (bl)) : w.heap.size ≤ gb126)); have n4_ := aM ((by rw [hg]; exact (below_size (bl)) : w.heap.size ≤ gb126)); have n5_ := aM ((by rw [hg]; exact Nat.ne_of_lt (blk_lt (g := gb125) (o := .cells #[.int .i64 a0_0, .int .i64 a0_1] 40 (0, 0)) (kl BK125)) : gb125 ≠ gb126)); have n6_ := aM ((by rw [hg]; exact Nat.ne_of_gt (blk_lt (g := gb125) (o := .cells #[.int .i64 a0_0, .int .i64 a0_1] 40 (0, 0)) (kl BK125)) : gb126 ≠ gb125)); clear BK125 HB; have BK125 := n0_; have HB := n1_; have BK126 := n2_; have GW126 := n3_; have GE126 := n4_; have NB125_126 := n5_; have NB126_125 := n6_; clear n0_ n1_ n2_ n3_ n4_ n5_ n6_ hb hbox hg) | ((with_reducible refine gate_dst (N := 5) rfl ?_); refine box_event ?hg (N := 5) ?hd (cs := #[.int .i64 a2_0, .int .i64 a2_1]) (t := 40) ?hr ?_; (case hd => rfl); (case hg => rfl); (case hr => first | (go_simp; done) | (go_simp; rfl)); intro gb127 hg w24 hbox hb; have n0_ := aM (kB (g := gb125) (o := .cells #[.int .i64 a0_0, .int .i64 a0_1] 40 (0, 0)) (kl BK125) hb); have n1_ := aM (kB (g := gb126) (o := .cells #[.int .i64 a1_0, .int .i64 a1_1] 40 (0, 0)) (kl BK126) hb); have n2_ := aM (bS (bl) hb); have n3_ := aM (hbox); have n4_ := aM ((by rw [hg]; exact (below_size (bl)) : w.heap.size ≤ gb127)); have n5_ := aM ((by rw [hg]; exact (below_size (bl)) : w.heap.size ≤ gb127)); have n6_ := aM ((by rw [hg]; exact Nat.ne_of_lt (blk_lt (g := gb125) (o := .cells #[.int .i64 a0_0, .int .i64 a0_1] 40 (0, 0)) (kl BK125)) : gb125 ≠ gb127)); have n7_ := aM ((by rw [hg]; exact Nat.ne_of_gt (blk_lt (g := gb125) (o := .cells #[.int .i64 a0_0, .int .i64 a0_1] 40 (0, 0)) (kl BK125)) : gb127 ≠ gb125)); have n8_ := aM ((by rw [hg]; exact Nat.ne_of_lt (blk_lt (g := gb126) (o := .cells #[.int .i64 a1_0, .int .i64 a1_1] 40 (0, 0)) (kl BK126)) : gb126 ≠ gb127)); have n9_ := aM ((by rw [hg]; exact Nat.ne_of_gt (blk_lt (g := gb126) (o := .cells #[.int .i64 a1_0, .int .i64 a1_1] 40 (0, 0)) (kl BK126)) : gb127 ≠ gb126)); clear BK125 BK126 HB; have BK125 := n0_; have BK126 := n1_; have HB := n2_; have BK127 := n3_; have GW127 := n4_; have GE127 := n5_; have NB125_127 := n6_; have NB127_125 := n7_; have NB126_127 := n8_; have NB127_126 := n9_; clear n0_ n1_ n2_ n3_ n4_ n5_ n6_ n7_ n8_ n9_ hb hbox hg; have hnb25 := NB125_126.out; have hnc25 := NB126_125.out; have hnb26 := NB125_127.out; have hnc26 := NB127_125.out; have hcz27_0 : w24.cell? ⟨gb125, 0, none⟩ = some (.int .i64 a0_0) := (kC BK125.out 0).trans rfl; have hcz27_1 : w24.cell? ⟨gb125, 1, none⟩ = some (.int .i64 a0_1) := (kC BK125.out 1).trans rfl; have hfz27_0 := kF BK125.out 0; have hfz27_1 := kF BK125.out 1; have hnb28 := NB126_127.out; have hnc28 := NB127_126.out; have hcz29_0 : w24.cell? ⟨gb126, 0, none⟩ = some (.int .i64 a1_0) := (kC BK126.out 0).trans rfl; have hcz29_1 : w24.cell? ⟨gb126, 1, none⟩ = some (.int .i64 a1_1) := (kC BK126.out 1).trans rfl; have hfz29_0 := kF BK126.out 0; have hfz29_1 := kF BK126.out 1; have hcz30_0 : w24.cell? ⟨gb127, 0, none⟩ = some (.int .i64 a2_0) := (kC BK127.out 0).trans rfl; have hcz30_1 : w24.cell? ⟨gb127, 1, none⟩ = some (.int .i64 a2_1) := (kC BK127.out 1).trans rfl; have hfz30_0 := kF BK127.out 0; have hfz30_1 := kF BK127.out 1) | ((with_reducible refine gate_dst (N := 10) rfl ?_); refine Kd.R_lit k40 _ 40 ?hg (N := 10) ?hd (xs := ([(⟨a0_0, a0_1⟩ : S40), (⟨a1_0, a1_1⟩ : S40), (⟨a2_0, a2_1⟩ : S40)] : List (S40))) (inner := [.int .i64 a0_0, .int .i64 a0_1, .int .i64 a1_0, .int .i64 a1_1, .int .i64 a2_0, .int .i64 a2_1]) (ok := fun _ => True) (okp := fun _ => True) ?hr ?hp (fun _ hk => hk) trivial (Below.refl _ _) (Nat.le_refl _) (by simp) ?_; (case hd => rfl); (case hg => rfl); (case hr => first | (go_simp; done) | (go_simp; rfl)); (case hp => exact (Reps.c2 (show Kd.M k40 _ _ _ (⟨a0_0, a0_1⟩ : S40) [.int .i64 a0_0, .int .i64 a0_1] from (k40_mkM _ _ _ (⟨a0_0, a0_1⟩ : S40) )) (Reps.c2 (show Kd.M k40 _ _ _ (⟨a1_0, a1_1⟩ : S40) [.int .i64 a1_0, .int .i64 a1_1] from (k40_mkM _ _ _ (⟨a1_0, a1_1⟩ : S40) )) (Reps.c2 (show Kd.M k40 _ _ _ (⟨a2_0, a2_1⟩ : S40) [.int .i64 a2_0, .int .i64 a2_1] from (k40_mkM _ _ _ (⟨a2_0, a2_1⟩ : S40) )) (Reps.none _ _))))); intro v129 w31 ho32 hb hg_ hnew_; clear hg_ hnew_; (first | rw [← Ny128.out] at ho32 | (simp only [Int.reduceToNat] at ho32; rw [← Ny128.out] at ho32)); have n0_ := aM (Kd.R_lower (Kd.R_newB (Kd.R_newB (Kd.R_newB ho32 (g := gb125) (o := .cells #[.int .i64 a0_0, .int .i64 a0_1] 40 (0, 0)) (kl BK125)) (g := gb126) (o := .cells #[.int .i64 a1_0, .int .i64 a1_1] 40 (0, 0)) (kl BK126)) (g := gb127) (o := .cells #[.int .i64 a2_0, .int .i64 a2_1] 40 (0, 0)) (kl BK127)) (below_size (bl))); have n1_ := aM (kB (g := gb125) (o := .cells #[.int .i64 a0_0, .int .i64 a0_1] 40 (0, 0)) (kl BK125) hb); have n2_ := aM (kB (g := gb126) (o := .cells #[.int .i64 a1_0, .int .i64 a1_1] 40 (0, 0)) (kl BK126) hb); have n3_ := aM (kB (g := gb127) (o := .cells #[.int .i64 a2_0, .int .i64 a2_1] 40 (0, 0)) (kl BK127) hb); have n4_ := aM (bS (bl) hb); clear BK125 BK126 BK127 HB; have HO130 := n0_; have BK125 := n1_; have BK126 := n2_; have BK127 := n3_; have HB := n4_; clear n0_ n1_ n2_ n3_ n4_ hb ho32; obtain ⟨Ao33, co33, eo33⟩ := Kd.R_slice HO130.out; subst eo33) | ((with_reducible refine gate_callee (f := 58) rfl ?_); refine goesL_ (some 11) rfl rfl Try.func58 (by kernel_rfl) rfl #[.slice Ao33 y128.length co33] rfl (by (try simp only [List.map_toArray, List.map_cons, List.map_nil]); first | done | rfl | (simp only [List.length_drop, List.length_take]; rfl)) ?_; (with_reducible refine (seg_valid.calls k _ _ y128 false _ ?side1 ?side2 A4.out).mono ?_); (case side1 => repeat (first | exact (rR HO130.out).2.2 | (with_reducible refine cA ?_ _) | (with_reducible refine cN ?_ _) | (with_reducible refine cD ?_))); (case side2 => exact (rR HO130.out).2.1); rintro e w34 ⟨rfl, hb⟩; refine ⟨_, rfl, ?_⟩; have n0_ := aM (rB (rl HO130) hb); have n1_ := aM (kB (g := gb125) (o := .cells #[.int .i64 a0_0, .int .i64 a0_1] 40 (0, 0)) (kl BK125) hb); have n2_ := aM (kB (g := gb126) (o := .cells #[.int .i64 a1_0, .int .i64 a1_1] 40 (0, 0)) (kl BK126) hb); have n3_ := aM (kB (g := gb127) (o := .cells #[.int .i64 a2_0, .int .i64 a2_1] 40 (0, 0)) (kl BK127) hb); have n4_ := aM (bS (bl) hb); clear HO130 BK125 BK126 BK127 HB; have HO130 := n0_; have BK125 := n1_; have BK126 := n2_; have BK127 := n3_; have HB := n4_; clear n0_ n1_ n2_ n3_ n4_; (try clear hb); (try clear hb2); (try clear hk); (try clear hi)))
  go_ret
  exact ⟨by first | rfl | (simp [errW_none, errW_some] <;> rfl) | (simp [*, errW_none, errW_some] <;> rfl), bl⟩
def api_Point_59.l0 : Nat → List (S40) → Int → Int → Int → Int → Option (Int)
 | 0, _, _, _, _, _ => none
 | k + 1, x0, x7, x8, x133000, x133001 => if x8 < x7 then (if 0 ≤ x8 then (if x8 < (x0.length : Int) then (if (x133000 == ((rd_T40 x0 x8).f0) && (x133001 == ((rd_T40 x0 x8).f1))) = true then (some x8) else (api_Point_59.l0 k x0 x7 (wrap64 (x8 + 1)) x133000 x133001)) else (none)) else (none)) else (some (-1))
def api_Point_59.f (k : Nat) (l0 : List (S40)) (a1_0 : Int) (a1_1 : Int) : Option (Int) := api_Point_59.l0 k l0 (l0.length : Int) 0 a1_0 a1_1
theorem api_Point_59.mono_l : ∀ k, (∀ y0 y1 y2 y3 y4, LeO (api_Point_59.l0 k y0 y1 y2 y3 y4) (api_Point_59.l0 (k + 1) y0 y1 y2 y3 y4))
 | 0 => fun _ _ _ _ _ r h => by simp [api_Point_59.l0] at h
 | k + 1 => by
  have ih0 := api_Point_59.mono_l k
  ·intro y0 y1 y2 y3 y4
   unfold api_Point_59.l0
   repeat' first
   | (with_reducible exact ih0 _ _ _ _ _)
   | (with_reducible exact LeO.refl _)
   | (with_reducible exact LeO.none _)
   | (with_reducible refine LeO.ite ?_ ?_)
   | (with_reducible refine LeO.bind ?_ (fun _ => ?_))
   | exact ih0 _ _ _ _ _
   | exact LeO.none _
   | refine LeO.ite ?_ ?_
   | refine LeO.bind ?_ (fun _ => ?_)
theorem api_Point_59.mono : ∀ a0 a1 a2 k, LeO (api_Point_59.f k a0 a1 a2) (api_Point_59.f (k + 1) a0 a1 a2) := by
 intro a0 a1 a2 k
 have ih0 := api_Point_59.mono_l k
 unfold api_Point_59.f
 repeat' first
   | (with_reducible exact ih0 _ _ _ _ _)
   | (with_reducible exact LeO.refl _)
   | (with_reducible exact LeO.none _)
   | (with_reducible refine LeO.ite ?_ ?_)
   | (with_reducible refine LeO.bind ?_ (fun _ => ?_))
   | exact ih0 _ _ _ _ _
   | exact LeO.none _
   | refine LeO.ite ?_ ?_
   | refine LeO.bind ?_ (fun _ => ?_)
set_option maxHeartbeats 8000000 in
set_option maxRecDepth 100000 in
theorem api_Point_59.calls (k : Nat) (A0 : Option Addr) (c0 : Nat) (l0 : List (S40)) (a1_0 : Int) (a1_1 : Int) (r : Int) (w : World) (hr0 : Kd.C k40 w A0 l0.length l0) (hc0 : l0.length ≤ c0) (h : api_Point_59.f k l0 a1_0 a1_1 = some r) :
  Calls Try.prog 59 #[.slice A0 l0.length c0, .agg #[.int .i64 a1_0, .int .i64 a1_1]] w fun e w' => e = .returned (.int .i64 r) ∧ Below w.heap.size w w' := by
 have hu40 := Try.underlying40
 have HR0 := aM hr0
 have HC0 := aM hc0
 clear hr0 hc0
 have HB := aM (Below.refl w.heap.size w)
 have H : (api_Point_59.l0 k l0 (l0.length : Int) 0 a1_0 a1_1) = some r := h
 clear h
 have H' := aM H
 clear H
 go_enter Try.func59, Try.ntmps59
 go_wp2_with (first | ((with_reducible refine gate_dst (N := 3) rfl ?_); refine box_event ?hg (N := 3) ?hd (cs := #[.int .i64 a1_0, .int .i64 a1_1]) (t := 40) ?hr ?_; (case hd => rfl); (case hg => rfl); (case hr => first | (go_simp; done) | (go_simp; rfl)); intro gb132 hg w3 hbox hb; have n0_ := aM (bS (bl) hb); have n1_ := aM (hbox); have n2_ := aM ((by rw [hg]; exact (below_size (bl)) : w.heap.size ≤ gb132)); have n3_ := aM ((by rw [hg]; exact (below_size (bl)) : w.heap.size ≤ gb132)); clear HB; have HB := n0_; have BK132 := n1_; have GW132 := n2_; have GE132 := n3_; clear n0_ n1_ n2_ n3_ hb hbox hg))
 repeat (go_quiet (first | ((with_reducible refine gate_dst (N := 3) rfl ?_); refine box_event ?hg (N := 3) ?hd (cs := #[.int .i64 a1_0, .int .i64 a1_1]) (t := 40) ?hr ?_; (case hd => rfl); (case hg => rfl); (case hr => first | (go_simp; done) | (go_simp; rfl)); intro gb132 hg w3 hbox hb; have n0_ := aM (bS (bl) hb); have n1_ := aM (hbox); have n2_ := aM ((by rw [hg]; exact (below_size (bl)) : w.heap.size ≤ gb132)); have n3_ := aM ((by rw [hg]; exact (below_size (bl)) : w.heap.size ≤ gb132)); clear HB; have HB := n0_; have BK132 := n1_; have GW132 := n2_; have GE132 := n3_; clear n0_ n1_ n2_ n3_ hb hbox hg)); try go_wp2_with (first | ((with_reducible refine gate_dst (N := 3) rfl ?_); refine box_event ?hg (N := 3) ?hd (cs := #[.int .i64 a1_0, .int .i64 a1_1]) (t := 40) ?hr ?_; (case hd => rfl); (case hg => rfl); (case hr => first | (go_simp; done) | (go_simp; rfl)); intro gb132 hg w3 hbox hb; have n0_ := aM (bS (bl) hb); have n1_ := aM (hbox); have n2_ := aM ((by rw [hg]; exact (below_size (bl)) : w.heap.size ≤ gb132)); have n3_ := aM ((by rw [hg]; exact (below_size (bl)) : w.heap.size ≤ gb132)); clear HB; have HB := n0_; have BK132 := n1_; have GW132 := n2_; have GE132 := n3_; clear n0_ n1_ n2_ n3_ hb hbox hg)))
 go_loopg [8] k (fun kq v8 w' => ∃ (x8_1 : Int), v8 = .int .i64 x8_1 ∧ Aside0 (api_Point_59.l0 kq l0 (l0.length : Int) x8_1 a1_0 a1_1 = some r) ∧ Aside0 (kq ≤ k) ∧ Aside0 (w'.heap[gb132]? = some (.cells #[.int .i64 a1_0, .int .i64 a1_1] 40 (0, 0))) ∧ Aside0 (Below w.heap.size w w'))
 case atStart => exact ⟨(0), (by first | rfl | (simp; done) | (simp [*]; done)), H', ⟨Nat.le_refl _⟩, ⟨by (with_reducible repeat (first | refine kN ?_ _ | refine kD ?_ | refine kA ?_ _)); exact BK132.out⟩, ⟨bl⟩⟩
 case round =>
  clear H'
  try clear p2
  obtain ⟨x8_1, rfl, HA, HK1, BK132, HB⟩ := hrel
  cases gk with
  | zero => exact absurd HA.out (by simp [api_Point_59.l0])
  | succ k1 =>
   have H := HA.out
   clear HA
   simp only [api_Point_59.l0] at H
   by_cases c4 : x8_1 < (l0.length : Int)
   ·rw [if_pos c4] at H
    have c4b0 : decide (x8_1 < (l0.length : Int)) = true := decide_eq_true c4
    clear c4
    by_cases c5 : 0 ≤ x8_1
    ·rw [if_pos c5] at H
     have c5b0 : decide (0 ≤ x8_1) = true := decide_eq_true c5
     clear c5
     by_cases c6 : x8_1 < (l0.length : Int)
     ·rw [if_pos c6] at H
      have c6b0 : decide (x8_1 < (l0.length : Int)) = true := decide_eq_true c6
      clear c6
      by_cases c7 : (a1_0 == ((rd_T40 l0 x8_1).f0) && (a1_1 == ((rd_T40 l0 x8_1).f1))) = true
      ·rw [if_pos c7] at H
       have c7b0 : (a1_0 == ((rd_T40 l0 x8_1).f0) && (a1_1 == ((rd_T40 l0 x8_1).f1))) = true := c7
       (try (have c7b1 : decide (a1_0 = ((rd_T40 l0 x8_1).f0) && (a1_1 == ((rd_T40 l0 x8_1).f1))) = true := by simpa using c7))
       (try (have c7b2 : (a1_0 == ((rd_T40 l0 x8_1).f0) && (a1_1 == ((rd_T40 l0 x8_1).f1))) = true := by simpa using c7))
       clear c7
       obtain rfl := Option.some.inj H
       have hcz8_0 : wr.cell? ⟨gb132, 0, none⟩ = some (.int .i64 a1_0) := (kC BK132.out 0).trans rfl
       have hcz8_1 : wr.cell? ⟨gb132, 1, none⟩ = some (.int .i64 a1_1) := (kC BK132.out 1).trans rfl
       have hfz8_0 := kF BK132.out 0
       have hfz8_1 := kF BK132.out 1
       have p133 : 0 ≤ (x8_1 : Int) := of_decide_eq_true (by first | (with_reducible assumption) | assumption)
       have q133 : x8_1 < (l0.length : Int) := of_decide_eq_true (by first | (with_reducible assumption) | assumption)
       obtain ⟨ad133, e133, hx133_0, hx133_1⟩ := at_T40 HR0.out x8_1 p133 q133
       cases e133
       replace hx133_0 := (HB.out.cell (World.block_lt_of_cell? w _ hx133_0)).trans hx133_0
       replace hx133_1 := (HB.out.cell (World.block_lt_of_cell? w _ hx133_1)).trans hx133_1
       replace p133 := eq_true p133
       replace q133 := eq_true q133
       go_wp2
       repeat (go_quiet (fail); try go_wp2)
       go_ret
       exact ⟨by first | rfl | (simp [errW_none, errW_some] <;> rfl) | (simp [*, errW_none, errW_some] <;> rfl), bl⟩
      ·rw [if_neg c7] at H
       have c7b0 : (a1_0 == ((rd_T40 l0 x8_1).f0) && (a1_1 == ((rd_T40 l0 x8_1).f1))) = false := by simpa using c7
       (try (have c7b1 : decide (a1_0 = ((rd_T40 l0 x8_1).f0) && (a1_1 == ((rd_T40 l0 x8_1).f1))) = false := by simpa using c7))
       (try (have c7b2 : (a1_0 == ((rd_T40 l0 x8_1).f0) && (a1_1 == ((rd_T40 l0 x8_1).f1))) = false := by simpa using c7))
       (try (have c7b3 : ¬ (a1_0 = ((rd_T40 l0 x8_1).f0) && (a1_1 == ((rd_T40 l0 x8_1).f1))) := by simpa using c7))
       clear c7
       have H' := aM H
       clear H
       have hcz9_0 : wr.cell? ⟨gb132, 0, none⟩ = some (.int .i64 a1_0) := (kC BK132.out 0).trans rfl
       have hcz9_1 : wr.cell? ⟨gb132, 1, none⟩ = some (.int .i64 a1_1) := (kC BK132.out 1).trans rfl
       have hfz9_0 := kF BK132.out 0
       have hfz9_1 := kF BK132.out 1
       have p133 : 0 ≤ (x8_1 : Int) := of_decide_eq_true (by first | (with_reducible assumption) | assumption)
       have q133 : x8_1 < (l0.length : Int) := of_decide_eq_true (by first | (with_reducible assumption) | assumption)
       obtain ⟨ad133, e133, hx133_0, hx133_1⟩ := at_T40 HR0.out x8_1 p133 q133
       cases e133
       replace hx133_0 := (HB.out.cell (World.block_lt_of_cell? w _ hx133_0)).trans hx133_0
       replace hx133_1 := (HB.out.cell (World.block_lt_of_cell? w _ hx133_1)).trans hx133_1
       replace p133 := eq_true p133
       replace q133 := eq_true q133
       go_wp2
       repeat (go_quiet (fail); try go_wp2)
       go_roundg k1
       case measure => have := HK1.out; omega
       case rel => exact ⟨(wrap64 (x8_1 + 1)), (by first | rfl | (simp; done) | (simp [*]; done)), H', ⟨by have := HK1.out; omega⟩, ⟨by (with_reducible repeat (first | refine kN ?_ _ | refine kD ?_ | refine kA ?_ _)); exact BK132.out⟩, ⟨bl⟩⟩
     ·rw [if_neg c6] at H
      exact absurd H (by simp)
    ·rw [if_neg c5] at H
     exact absurd H (by simp)
   ·rw [if_neg c4] at H
    have c4b0 : decide (x8_1 < (l0.length : Int)) = false := decide_eq_false c4
    clear c4
    obtain rfl := Option.some.inj H
    go_wp2
    repeat (go_quiet (fail); try go_wp2)
    go_ret
    exact ⟨by first | rfl | (simp [errW_none, errW_some] <;> rfl) | (simp [*, errW_none, errW_some] <;> rfl), bl⟩
def api_Point_46.f (k : Nat) (l0 : List (S40)) (a1_0 : Int) (a1_1 : Int) : Option (Bool) := (api_Point_59.f k l0 a1_0 a1_1).bind fun t135 => (some (decide (t135 ≥ 0)))
theorem api_Point_46.mono : ∀ a0 a1 a2 k, LeO (api_Point_46.f k a0 a1 a2) (api_Point_46.f (k + 1) a0 a1 a2) := by
 intro a0 a1 a2 k
 unfold api_Point_46.f
 repeat' first
   | (with_reducible exact api_Point_59.mono _ _ _ _)
   | (with_reducible exact LeO.refl _)
   | (with_reducible exact LeO.none _)
   | (with_reducible refine LeO.ite ?_ ?_)
   | (with_reducible refine LeO.bind ?_ (fun _ => ?_))
   | exact api_Point_59.mono _ _ _ _
   | exact LeO.none _
   | refine LeO.ite ?_ ?_
   | refine LeO.bind ?_ (fun _ => ?_)
set_option maxHeartbeats 8000000 in
set_option maxRecDepth 100000 in
theorem api_Point_46.calls (k : Nat) (A0 : Option Addr) (c0 : Nat) (l0 : List (S40)) (a1_0 : Int) (a1_1 : Int) (r : Bool) (w : World) (hr0 : Kd.C k40 w A0 l0.length l0) (hc0 : l0.length ≤ c0) (h : api_Point_46.f k l0 a1_0 a1_1 = some r) :
  Calls Try.prog 46 #[.slice A0 l0.length c0, .agg #[.int .i64 a1_0, .int .i64 a1_1]] w fun e w' => e = .returned (.bool r) ∧ Below w.heap.size w w' := by
 have hu40 := Try.underlying40
 have HR0 := aM hr0
 have HC0 := aM hc0
 clear hr0 hc0
 have HB := aM (Below.refl w.heap.size w)
 have H : ((api_Point_59.f k l0 a1_0 a1_1).bind fun t135 => (some (decide (t135 ≥ 0)))) = some r := h
 clear h
 replace H := Option.bind_eq_some_iff.mp H
 obtain ⟨t135, A30, H⟩ := H
 try dsimp only at H
 have A3 := aM A30
 clear A30
 obtain rfl := Option.some.inj H
 go_enter Try.func46, Try.ntmps46
 go_wp2_with (first | ((with_reducible refine gate_dst (N := 3) rfl ?_); refine box_event ?hg (N := 3) ?hd (cs := #[.int .i64 a1_0, .int .i64 a1_1]) (t := 40) ?hr ?_; (case hd => rfl); (case hg => rfl); (case hr => first | (go_simp; done) | (go_simp; rfl)); intro gb134 hg w4 hbox hb; have n0_ := aM (bS (bl) hb); have n1_ := aM (hbox); have n2_ := aM ((by rw [hg]; exact (below_size (bl)) : w.heap.size ≤ gb134)); have n3_ := aM ((by rw [hg]; exact (below_size (bl)) : w.heap.size ≤ gb134)); clear HB; have HB := n0_; have BK134 := n1_; have GW134 := n2_; have GE134 := n3_; clear n0_ n1_ n2_ n3_ hb hbox hg; have hcz5_0 : w4.cell? ⟨gb134, 0, none⟩ = some (.int .i64 a1_0) := (kC BK134.out 0).trans rfl; have hcz5_1 : w4.cell? ⟨gb134, 1, none⟩ = some (.int .i64 a1_1) := (kC BK134.out 1).trans rfl; have hfz5_0 := kF BK134.out 0; have hfz5_1 := kF BK134.out 1) | ((with_reducible refine gate_callee (f := 59) rfl ?_); refine goesL_ (some 7) rfl rfl Try.func59 (by kernel_rfl) rfl #[.slice A0 l0.length c0, .agg #[.int .i64 a1_0, .int .i64 a1_1]] rfl (by (try simp only [List.map_toArray, List.map_cons, List.map_nil]); first | done | rfl | (simp only [List.length_drop, List.length_take]; rfl)) ?_; (with_reducible refine (api_Point_59.calls k _ _ l0 a1_0 a1_1 t135 _ ?side1 ?side2 A3.out).mono ?_); (case side1 => repeat (first | exact (Kd.C_below HR0.out HB.out) | (with_reducible refine cA ?_ _) | (with_reducible refine cN ?_ _) | (with_reducible refine cD ?_))); (case side2 => exact HC0.out); rintro e w6 ⟨rfl, hb⟩; refine ⟨_, rfl, ?_⟩; have n0_ := aM (kB (g := gb134) (o := .cells #[.int .i64 a1_0, .int .i64 a1_1] 40 (0, 0)) (kl BK134) hb); have n1_ := aM (bS (bl) hb); clear BK134 HB; have BK134 := n0_; have HB := n1_; clear n0_ n1_; (try clear hb); (try clear hb2); (try clear hk); (try clear hi)))
 go_ret
 exact ⟨by first | rfl | (simp [errW_none, errW_some] <;> rfl) | (simp [*, errW_none, errW_some] <;> rfl), bl⟩
end Go.Proofs.Ytpgbfjndgbfhnaa.PAll
