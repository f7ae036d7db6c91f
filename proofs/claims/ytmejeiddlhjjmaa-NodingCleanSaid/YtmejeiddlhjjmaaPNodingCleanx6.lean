-- out of a driver of this session's prover over the kit's print: Lean checks it
import Derived.Test.YtmejeiddlhjjmaaPNodingCleanx0
import Derived.Test.YtmejeiddlhjjmaaPNodingCleanx1
import Derived.Test.YtmejeiddlhjjmaaPNodingCleanx3
import Derived.Test.YtmejeiddlhjjmaaPNodingCleanx4
import Derived.Test.YtmejeiddlhjjmaaPNodingCleanx5
namespace Go.Proofs.Ytmejeiddlhjjmaa.PNodingClean
open Go.Proofs.YtmejeiddlhjjmaaG Go.Shelf Go.Lib
open Go.RowKit Go.Proofs.YtmejeiddlhjjmaaW.PrintWords Go.Proofs.YtmejeiddlhjjmaaW.PrintLast Go.Proofs.YtmejeiddlhjjmaaW.PrintMore
attribute [local go_sem] max2_int min2_int max_two min_two max_three min_three max_four min_four   -- for this text's walks alone
set_option linter.unusedVariables false
set_option linter.unusedSimpArgs false
attribute [local go_sem high] eqA33
def seg_valid.l0 : Nat → List (S33) → Int → Int → Option (Bool)
 | 0, _, _, _ => none
 | k + 1, x5, x6, x7 => if x7 < x6 then (if 0 ≤ x7 then (if x7 < (x5.length : Int) then ((grid_Valid.f ((rd_T33 x5 x7).f0) ((rd_T33 x5 x7).f1)).bind fun t148 => (if t148 = true then (seg_valid.l0 k x5 x6 (wrap64 (x7 + 1))) else (some false))) else (none)) else (none)) else (some true)
def seg_valid.f (k : Nat) (l0 : List (S33)) : Option (Bool) := seg_valid.l0 k l0 (l0.length : Int) 0
theorem seg_valid.mono_l : ∀ k, (∀ y0 y1 y2, LeO (seg_valid.l0 k y0 y1 y2) (seg_valid.l0 (k + 1) y0 y1 y2))
 | 0 => fun _ _ _ r h => by simp [seg_valid.l0] at h
 | k + 1 => by
  have ih0 := seg_valid.mono_l k
  ·intro y0 y1 y2
   unfold seg_valid.l0
   repeat' first
   | (with_reducible exact ih0 _ _ _)
   | (with_reducible exact LeO.refl _)
   | (with_reducible exact LeO.none _)
   | (with_reducible refine LeO.ite ?_ ?_)
   | (with_reducible refine LeO.bind ?_ (fun _ => ?_))
   | exact ih0 _ _ _
   | exact LeO.none _
   | refine LeO.ite ?_ ?_
   | refine LeO.bind ?_ (fun _ => ?_)
theorem seg_valid.mono : ∀ a0 k, LeO (seg_valid.f k a0) (seg_valid.f (k + 1) a0) := by
 intro a0 k
 have ih0 := seg_valid.mono_l k
 unfold seg_valid.f
 repeat' first
   | (with_reducible exact ih0 _ _ _)
   | (with_reducible exact LeO.refl _)
   | (with_reducible exact LeO.none _)
   | (with_reducible refine LeO.ite ?_ ?_)
   | (with_reducible refine LeO.bind ?_ (fun _ => ?_))
   | exact ih0 _ _ _
   | exact LeO.none _
   | refine LeO.ite ?_ ?_
   | refine LeO.bind ?_ (fun _ => ?_)
set_option maxHeartbeats 8000000 in
set_option maxRecDepth 100000 in
theorem seg_valid.calls (k : Nat) (A0 : Option Addr) (c0 : Nat) (l0 : List (S33)) (r : Bool) (w : World) (hr0 : Kd.C k33 w A0 l0.length l0) (hc0 : l0.length ≤ c0) (h : seg_valid.f k l0 = some r) :
  Calls Try.prog 62 #[.slice A0 l0.length c0] w fun e w' => e = .returned (.bool r) ∧ Below w.heap.size w w' := by
 have hu33 := Try.underlying33
 have HR0 := aM hr0
 have HC0 := aM hc0
 clear hr0 hc0
 have HB := aM (Below.refl w.heap.size w)
 have H : (seg_valid.l0 k l0 (l0.length : Int) 0) = some r := h
 clear h
 have H' := aM H
 clear H
 go_enter Try.func62, Try.ntmps62
 go_wp2
 go_loopg [7] k (fun kq v7 w' => ∃ (x7_1 : Int), v7 = .int .i64 x7_1 ∧ Aside0 (seg_valid.l0 kq l0 (l0.length : Int) x7_1 = some r) ∧ Aside0 (kq ≤ k) ∧ Aside0 (Below w.heap.size w w'))
 case atStart => exact ⟨(0), (by first | rfl | (simp; done) | (simp [*]; done)), H', ⟨Nat.le_refl _⟩, ⟨bl⟩⟩
 case round =>
  clear H'
  obtain ⟨x7_1, rfl, HA, HK1, HB⟩ := hrel
  cases gk with
  | zero => exact absurd HA.out (by simp [seg_valid.l0])
  | succ k1 =>
   have H := HA.out
   clear HA
   simp only [seg_valid.l0] at H
   by_cases c2 : x7_1 < (l0.length : Int)
   ·rw [if_pos c2] at H
    have c2b0 : decide (x7_1 < (l0.length : Int)) = true := decide_eq_true c2
    clear c2
    by_cases c3 : 0 ≤ x7_1
    ·rw [if_pos c3] at H
     have c3b0 : decide (0 ≤ x7_1) = true := decide_eq_true c3
     clear c3
     by_cases c4 : x7_1 < (l0.length : Int)
     ·rw [if_pos c4] at H
      have c4b0 : decide (x7_1 < (l0.length : Int)) = true := decide_eq_true c4
      clear c4
      replace H := Option.bind_eq_some_iff.mp H
      obtain ⟨t148, A50, H⟩ := H
      try dsimp only at H
      have A5 := aM A50
      clear A50
      by_cases c6 : t148 = true
      ·subst c6
       have H1 : (seg_valid.l0 k1 l0 (l0.length : Int) (wrap64 (x7_1 + 1))) = some r := by rw [if_pos rfl] at H; exact H
       clear H
       have H := H1
       clear H1
       have H' := aM H
       clear H
       have p146 : 0 ≤ (x7_1 : Int) := of_decide_eq_true (by first | (with_reducible assumption) | assumption)
       have q146 : x7_1 < (l0.length : Int) := of_decide_eq_true (by first | (with_reducible assumption) | assumption)
       obtain ⟨ad146, e146, hx146_0, hx146_1⟩ := at_T33 HR0.out x7_1 p146 q146
       cases e146
       replace hx146_0 := (HB.out.cell (World.block_lt_of_cell? w _ hx146_0)).trans hx146_0
       replace hx146_1 := (HB.out.cell (World.block_lt_of_cell? w _ hx146_1)).trans hx146_1
       replace p146 := eq_true p146
       replace q146 := eq_true q146
       go_wp2_with (first | ((with_reducible refine gate_dst (N := 4) rfl ?_); refine box_event ?hg (N := 4) ?hd (cs := #[.int .i64 0, .int .i64 0]) (t := 33) ?hr ?_; (case hd => rfl); (case hg => rfl); (case hr => first | (go_simp; done) | (go_simp; rfl)); intro gb147 hg w7 hbox hb; have n0_ := aM (bS (bl) hb); have n1_ := aM (hbox); have n2_ := aM ((by rw [hg]; exact (below_size (bl)) : w.heap.size ≤ gb147)); have n3_ := aM ((by rw [hg]; exact (below_size (bl)) : w.heap.size ≤ gb147)); clear HB; have HB := n0_; have BK147 := n1_; have GW147 := n2_; have GE147 := n3_; clear n0_ n1_ n2_ n3_ hb hbox hg; have hcz8_0 : w7.cell? ⟨gb147, 0, none⟩ = some (.int .i64 0) := (kC BK147.out 0).trans rfl; have hcz8_1 : w7.cell? ⟨gb147, 1, none⟩ = some (.int .i64 0) := (kC BK147.out 1).trans rfl; have hfz8_0 := kF BK147.out 0; have hfz8_1 := kF BK147.out 1) | ((with_reducible refine gate_callee (f := 53) rfl ?_); refine goesL_ (some 12) rfl rfl Try.func53 (by kernel_rfl) rfl #[.agg #[.int .i64 ((rd_T33 l0 x7_1).f0), .int .i64 ((rd_T33 l0 x7_1).f1)]] rfl (by (try simp only [List.map_toArray, List.map_cons, List.map_nil]); first | done | rfl | (simp only [List.length_drop, List.length_take]; rfl)) ?_; (with_reducible refine (grid_Valid.calls ((rd_T33 l0 x7_1).f0) ((rd_T33 l0 x7_1).f1) true _ A5.out).mono ?_); rintro e w9 ⟨rfl, hb⟩; refine ⟨_, rfl, ?_⟩; have n0_ := aM (kB (g := gb147) (o := .cells #[.int .i64 ((rd_T33 l0 x7_1).f0), .int .i64 ((rd_T33 l0 x7_1).f1)] 33 (0, 0)) (by (with_reducible repeat (first | refine kN ?_ _ | refine kD ?_ | refine kA ?_ _)); refine kP (cs := #[.int .i64 ((rd_T33 l0 x7_1).f0), .int .i64 0]) ?_ 1 _ rfl; (with_reducible repeat (first | refine kN ?_ _ | refine kD ?_ | refine kA ?_ _)); refine kP (cs := #[.int .i64 0, .int .i64 0]) ?_ 0 _ rfl; (with_reducible repeat (first | refine kN ?_ _ | refine kD ?_ | refine kA ?_ _)); exact BK147.out) hb); have n1_ := aM (bS (bl) hb); clear BK147 HB; have BK147 := n0_; have HB := n1_; clear n0_ n1_; (try clear hb); (try clear hb2); (try clear hk); (try clear hi)))
       go_roundg k1
       case measure => have := HK1.out; omega
       case rel => exact ⟨(wrap64 (x7_1 + 1)), (by first | rfl | (simp; done) | (simp [*]; done)), H', ⟨by have := HK1.out; omega⟩, ⟨bl⟩⟩
      ·replace c6 := Bool.eq_false_iff.mpr c6
       subst c6
       have H1 : (some false) = some r := by rw [if_neg (show ¬ (false = true) by decide)] at H; exact H
       clear H
       have H := H1
       clear H1
       obtain rfl := Option.some.inj H
       have p146 : 0 ≤ (x7_1 : Int) := of_decide_eq_true (by first | (with_reducible assumption) | assumption)
       have q146 : x7_1 < (l0.length : Int) := of_decide_eq_true (by first | (with_reducible assumption) | assumption)
       obtain ⟨ad146, e146, hx146_0, hx146_1⟩ := at_T33 HR0.out x7_1 p146 q146
       cases e146
       replace hx146_0 := (HB.out.cell (World.block_lt_of_cell? w _ hx146_0)).trans hx146_0
       replace hx146_1 := (HB.out.cell (World.block_lt_of_cell? w _ hx146_1)).trans hx146_1
       replace p146 := eq_true p146
       replace q146 := eq_true q146
       go_wp2_with (first | ((with_reducible refine gate_dst (N := 4) rfl ?_); refine box_event ?hg (N := 4) ?hd (cs := #[.int .i64 0, .int .i64 0]) (t := 33) ?hr ?_; (case hd => rfl); (case hg => rfl); (case hr => first | (go_simp; done) | (go_simp; rfl)); intro gb147 hg w10 hbox hb; have n0_ := aM (bS (bl) hb); have n1_ := aM (hbox); have n2_ := aM ((by rw [hg]; exact (below_size (bl)) : w.heap.size ≤ gb147)); have n3_ := aM ((by rw [hg]; exact (below_size (bl)) : w.heap.size ≤ gb147)); clear HB; have HB := n0_; have BK147 := n1_; have GW147 := n2_; have GE147 := n3_; clear n0_ n1_ n2_ n3_ hb hbox hg; have hcz11_0 : w10.cell? ⟨gb147, 0, none⟩ = some (.int .i64 0) := (kC BK147.out 0).trans rfl; have hcz11_1 : w10.cell? ⟨gb147, 1, none⟩ = some (.int .i64 0) := (kC BK147.out 1).trans rfl; have hfz11_0 := kF BK147.out 0; have hfz11_1 := kF BK147.out 1) | ((with_reducible refine gate_callee (f := 53) rfl ?_); refine goesL_ (some 12) rfl rfl Try.func53 (by kernel_rfl) rfl #[.agg #[.int .i64 ((rd_T33 l0 x7_1).f0), .int .i64 ((rd_T33 l0 x7_1).f1)]] rfl (by (try simp only [List.map_toArray, List.map_cons, List.map_nil]); first | done | rfl | (simp only [List.length_drop, List.length_take]; rfl)) ?_; (with_reducible refine (grid_Valid.calls ((rd_T33 l0 x7_1).f0) ((rd_T33 l0 x7_1).f1) false _ A5.out).mono ?_); rintro e w12 ⟨rfl, hb⟩; refine ⟨_, rfl, ?_⟩; have n0_ := aM (kB (g := gb147) (o := .cells #[.int .i64 ((rd_T33 l0 x7_1).f0), .int .i64 ((rd_T33 l0 x7_1).f1)] 33 (0, 0)) (by (with_reducible repeat (first | refine kN ?_ _ | refine kD ?_ | refine kA ?_ _)); refine kP (cs := #[.int .i64 ((rd_T33 l0 x7_1).f0), .int .i64 0]) ?_ 1 _ rfl; (with_reducible repeat (first | refine kN ?_ _ | refine kD ?_ | refine kA ?_ _)); refine kP (cs := #[.int .i64 0, .int .i64 0]) ?_ 0 _ rfl; (with_reducible repeat (first | refine kN ?_ _ | refine kD ?_ | refine kA ?_ _)); exact BK147.out) hb); have n1_ := aM (bS (bl) hb); clear BK147 HB; have BK147 := n0_; have HB := n1_; clear n0_ n1_; (try clear hb); (try clear hb2); (try clear hk); (try clear hi)))
       go_ret
       exact ⟨by first | rfl | (simp [errW_none, errW_some] <;> rfl) | (simp [*, errW_none, errW_some] <;> rfl), bl⟩
     ·rw [if_neg c4] at H
      exact absurd H (by simp)
    ·rw [if_neg c3] at H
     exact absurd H (by simp)
   ·rw [if_neg c2] at H
    have c2b0 : decide (x7_1 < (l0.length : Int)) = false := decide_eq_false c2
    clear c2
    obtain rfl := Option.some.inj H
    go_wp2
    go_ret
    exact ⟨by first | rfl | (simp [errW_none, errW_some] <;> rfl) | (simp [*, errW_none, errW_some] <;> rfl), bl⟩
def seg_Turn.f (k : Nat) (a0_0 : Int) (a0_1 : Int) (a1_0 : Int) (a1_1 : Int) (a2_0 : Int) (a2_1 : Int) : Option (Int) := (seg_valid.f k (([(⟨a0_0, a0_1⟩ : S33), (⟨a1_0, a1_1⟩ : S33), (⟨a2_0, a2_1⟩ : S33)] : List (S33)))).bind fun t155 => (if t155 = true then (some (wrap64 ((wrap64 ((wrap64 (a1_0 - a0_0)) * (wrap64 (a2_1 - a0_1)))) - (wrap64 ((wrap64 (a1_1 - a0_1)) * (wrap64 (a2_0 - a0_0))))))) else (some 0))
theorem seg_Turn.mono : ∀ a0 a1 a2 a3 a4 a5 k, LeO (seg_Turn.f k a0 a1 a2 a3 a4 a5) (seg_Turn.f (k + 1) a0 a1 a2 a3 a4 a5) := by
 intro a0 a1 a2 a3 a4 a5 k
 unfold seg_Turn.f
 repeat' first
   | (with_reducible exact seg_valid.mono _ _)
   | (with_reducible exact LeO.refl _)
   | (with_reducible exact LeO.none _)
   | (with_reducible refine LeO.ite ?_ ?_)
   | (with_reducible refine LeO.bind ?_ (fun _ => ?_))
   | exact seg_valid.mono _ _
   | exact LeO.none _
   | refine LeO.ite ?_ ?_
   | refine LeO.bind ?_ (fun _ => ?_)
set_option maxHeartbeats 8000000 in
set_option maxRecDepth 100000 in
theorem seg_Turn.calls (k : Nat) (a0_0 : Int) (a0_1 : Int) (a1_0 : Int) (a1_1 : Int) (a2_0 : Int) (a2_1 : Int) (r : Int) (w : World) (h : seg_Turn.f k a0_0 a0_1 a1_0 a1_1 a2_0 a2_1 = some r) :
  Calls Try.prog 64 #[.agg #[.int .i64 a0_0, .int .i64 a0_1], .agg #[.int .i64 a1_0, .int .i64 a1_1], .agg #[.int .i64 a2_0, .int .i64 a2_1]] w fun e w' => e = .returned (.int .i64 r) ∧ Below w.heap.size w w' := by
 have hu33 := Try.underlying33
 have HB := aM (Below.refl w.heap.size w)
 have H : ((seg_valid.f k (([(⟨a0_0, a0_1⟩ : S33), (⟨a1_0, a1_1⟩ : S33), (⟨a2_0, a2_1⟩ : S33)] : List (S33)))).bind fun t155 => (if t155 = true then (some (wrap64 ((wrap64 ((wrap64 (a1_0 - a0_0)) * (wrap64 (a2_1 - a0_1)))) - (wrap64 ((wrap64 (a1_1 - a0_1)) * (wrap64 (a2_0 - a0_0))))))) else (some 0))) = some r := h
 clear h
 obtain ⟨y152, hy152⟩ : ∃ y_ : List (S33), y_ = (([(⟨a0_0, a0_1⟩ : S33), (⟨a1_0, a1_1⟩ : S33), (⟨a2_0, a2_1⟩ : S33)] : List (S33))) := ⟨_, rfl⟩
 replace H : ((seg_valid.f k y152).bind fun t155 => (if t155 = true then (some (wrap64 ((wrap64 ((wrap64 (a1_0 - a0_0)) * (wrap64 (a2_1 - a0_1)))) - (wrap64 ((wrap64 (a1_1 - a0_1)) * (wrap64 (a2_0 - a0_0))))))) else (some 0))) = some r := by first | (rw [hy152]; with_reducible exact H) | (have H2_ := (Option.bind_some _ _).symm.trans H; rw [hy152]; with_reducible exact H2_) | (have H2_ := (Option.bind_some _ _).symm.trans H; with_reducible exact H2_) | with_reducible exact H | (rw [hy152]; exact H) | exact H
 have Ny152 := aM hy152
 clear hy152
 replace H := Option.bind_eq_some_iff.mp H
 obtain ⟨t155, A40, H⟩ := H
 try dsimp only at H
 have A4 := aM A40
 clear A40
 by_cases c5 : t155 = true
 ·subst c5
  have H1 : (some (wrap64 ((wrap64 ((wrap64 (a1_0 - a0_0)) * (wrap64 (a2_1 - a0_1)))) - (wrap64 ((wrap64 (a1_1 - a0_1)) * (wrap64 (a2_0 - a0_0))))))) = some r := by rw [if_pos rfl] at H; exact H
  clear H
  have H := H1
  clear H1
  obtain rfl := Option.some.inj H
  go_enter Try.func64, Try.ntmps64
  go_wp2_with (first | ((with_reducible refine gate_dst (N := 3) rfl ?_); refine box_event ?hg (N := 3) ?hd (cs := #[.int .i64 a0_0, .int .i64 a0_1]) (t := 33) ?hr ?_; (case hd => rfl); (case hg => rfl); (case hr => first | (go_simp; done) | (go_simp; rfl)); intro gb149 hg w6 hbox hb; have n0_ := aM (bS (bl) hb); have n1_ := aM (hbox); have n2_ := aM ((by rw [hg]; exact (below_size (bl)) : w.heap.size ≤ gb149)); have n3_ := aM ((by rw [hg]; exact (below_size (bl)) : w.heap.size ≤ gb149)); clear HB; have HB := n0_; have BK149 := n1_; have GW149 := n2_; have GE149 := n3_; clear n0_ n1_ n2_ n3_ hb hbox hg) | ((with_reducible refine gate_dst (N := 4) rfl ?_); refine box_event ?hg (N := 4) ?hd (cs := #[.int .i64 a1_0, .int .i64 a1_1]) (t := 33) ?hr ?_; (case hd => rfl); (case hg => rfl); (case hr => first | (go_simp; done) | (go_simp; rfl)); intro gb150 hg w7 hbox hb; have n0_ := aM (kB (g := gb149) (o := .cells #[.int .i64 a0_0, .int .i64 a0_1] 33 (0, 0)) (kl BK149) hb); have n1_ := aM (bS (bl) hb); have n2_ := aM (hbox); have n3_ := aM ((by rw [hg]; exact (below_size (bl)) : w.heap.size ≤ gb150)); have n4_ := aM ((by rw [hg]; exact (below_size (bl)) : w.heap.size ≤ gb150)); have n5_ := aM ((by rw [hg]; exact Nat.ne_of_lt (blk_lt (g := gb149) (o := .cells #[.int .i64 a0_0, .int .i64 a0_1] 33 (0, 0)) (kl BK149)) : gb149 ≠ gb150)); have n6_ := aM ((by rw [hg]; exact Nat.ne_of_gt (blk_lt (g := gb149) (o := .cells #[.int .i64 a0_0, .int .i64 a0_1] 33 (0, 0)) (kl BK149)) : gb150 ≠ gb149)); clear BK149 HB; have BK149 := n0_; have HB := n1_; have BK150 := n2_; have GW150 := n3_; have GE150 := n4_; have NB149_150 := n5_; have NB150_149 := n6_; clear n0_ n1_ n2_ n3_ n4_ n5_ n6_ hb hbox hg) | ((with_reducible refine gate_dst (N := 5) rfl ?_); refine box_event ?hg (N := 5) ?hd (cs := #[.int .i64 a2_0, .int .i64 a2_1]) (t := 33) ?hr ?_; (case hd => rfl); (case hg => rfl); (case hr => first | (go_simp; done) | (go_simp; rfl)); intro gb151 hg w8 hbox hb; have n0_ := aM (kB (g := gb149) (o := .cells #[.int .i64 a0_0, .int .i64 a0_1] 33 (0, 0)) (kl BK149) hb); have n1_ := aM (kB (g := gb150) (o := .cells #[.int .i64 a1_0, .int .i64 a1_1] 33 (0, 0)) (kl BK150) hb); have n2_ := aM (bS (bl) hb); have n3_ := aM (hbox); have n4_ := aM ((by rw [hg]; exact (below_size (bl)) : w.heap.size ≤ gb151)); have n5_ := aM ((by rw [hg]; exact (below_size (bl)) : w.heap.size ≤ gb151)); have n6_ := aM ((by rw [hg]; exact Nat.ne_of_lt (blk_lt (g := gb149) (o := .cells #[.int .i64 a0_0, .int .i64 a0_1] 33 (0, 0)) (kl BK149)) : gb149 ≠ gb151)); have n7_ := aM ((by rw [hg]; exact Nat.ne_of_gt (blk_lt (g := gb149) (o := .cells #[.int .i64 a0_0, .int .i64 a0_1] 33 (0, 0)) (kl BK149)) : gb151 ≠ gb149)); have n8_ := aM ((by rw [hg]; exact Nat.ne_of_lt (blk_lt (g := gb150) (o := .cells #[.int .i64 a1_0, .int .i64 a1_1] 33 (0, 0)) (kl BK150)) : gb150 ≠ gb151)); have n9_ := aM ((by rw [hg]; exact Nat.ne_of_gt (blk_lt (g := gb150) (o := .cells #[.int .i64 a1_0, .int .i64 a1_1] 33 (0, 0)) (kl BK150)) : gb151 ≠ gb150)); clear BK149 BK150 HB; have BK149 := n0_; have BK150 := n1_; have HB := n2_; have BK151 := n3_; have GW151 := n4_; have GE151 := n5_; have NB149_151 := n6_; have NB151_149 := n7_; have NB150_151 := n8_; have NB151_150 := n9_; clear n0_ n1_ n2_ n3_ n4_ n5_ n6_ n7_ n8_ n9_ hb hbox hg; have hnb9 := NB149_150.out; have hnc9 := NB150_149.out; have hnb10 := NB149_151.out; have hnc10 := NB151_149.out; have hcz11_0 : w8.cell? ⟨gb149, 0, none⟩ = some (.int .i64 a0_0) := (kC BK149.out 0).trans rfl; have hcz11_1 : w8.cell? ⟨gb149, 1, none⟩ = some (.int .i64 a0_1) := (kC BK149.out 1).trans rfl; have hfz11_0 := kF BK149.out 0; have hfz11_1 := kF BK149.out 1; have hnb12 := NB150_151.out; have hnc12 := NB151_150.out; have hcz13_0 : w8.cell? ⟨gb150, 0, none⟩ = some (.int .i64 a1_0) := (kC BK150.out 0).trans rfl; have hcz13_1 : w8.cell? ⟨gb150, 1, none⟩ = some (.int .i64 a1_1) := (kC BK150.out 1).trans rfl; have hfz13_0 := kF BK150.out 0; have hfz13_1 := kF BK150.out 1; have hcz14_0 : w8.cell? ⟨gb151, 0, none⟩ = some (.int .i64 a2_0) := (kC BK151.out 0).trans rfl; have hcz14_1 : w8.cell? ⟨gb151, 1, none⟩ = some (.int .i64 a2_1) := (kC BK151.out 1).trans rfl; have hfz14_0 := kF BK151.out 0; have hfz14_1 := kF BK151.out 1) | ((with_reducible refine gate_dst (N := 10) rfl ?_); refine Kd.R_lit k33 _ 33 ?hg (N := 10) ?hd (xs := ([(⟨a0_0, a0_1⟩ : S33), (⟨a1_0, a1_1⟩ : S33), (⟨a2_0, a2_1⟩ : S33)] : List (S33))) (inner := [.int .i64 a0_0, .int .i64 a0_1, .int .i64 a1_0, .int .i64 a1_1, .int .i64 a2_0, .int .i64 a2_1]) (ok := fun _ => True) (okp := fun _ => True) ?hr ?hp (fun _ hk => hk) trivial (Below.refl _ _) (Nat.le_refl _) (by simp) ?_; (case hd => rfl); (case hg => rfl); (case hr => first | (go_simp; done) | (go_simp; rfl)); (case hp => exact (Reps.c2 (show Kd.M k33 _ _ _ (⟨a0_0, a0_1⟩ : S33) [.int .i64 a0_0, .int .i64 a0_1] from (k33_mkM _ _ _ (⟨a0_0, a0_1⟩ : S33) )) (Reps.c2 (show Kd.M k33 _ _ _ (⟨a1_0, a1_1⟩ : S33) [.int .i64 a1_0, .int .i64 a1_1] from (k33_mkM _ _ _ (⟨a1_0, a1_1⟩ : S33) )) (Reps.c2 (show Kd.M k33 _ _ _ (⟨a2_0, a2_1⟩ : S33) [.int .i64 a2_0, .int .i64 a2_1] from (k33_mkM _ _ _ (⟨a2_0, a2_1⟩ : S33) )) (Reps.none _ _))))); intro v153 w15 ho16 hb hg_ hnew_; clear hg_ hnew_; (first | rw [← Ny152.out] at ho16 | (simp only [Int.reduceToNat] at ho16; rw [← Ny152.out] at ho16)); have n0_ := aM (Kd.R_lower (Kd.R_newB (Kd.R_newB (Kd.R_newB ho16 (g := gb149) (o := .cells #[.int .i64 a0_0, .int .i64 a0_1] 33 (0, 0)) (kl BK149)) (g := gb150) (o := .cells #[.int .i64 a1_0, .int .i64 a1_1] 33 (0, 0)) (kl BK150)) (g := gb151) (o := .cells #[.int .i64 a2_0, .int .i64 a2_1] 33 (0, 0)) (kl BK151)) (below_size (bl))); have n1_ := aM (kB (g := gb149) (o := .cells #[.int .i64 a0_0, .int .i64 a0_1] 33 (0, 0)) (kl BK149) hb); have n2_ := aM (kB (g := gb150) (o := .cells #[.int .i64 a1_0, .int .i64 a1_1] 33 (0, 0)) (kl BK150) hb); have n3_ := aM (kB (g := gb151) (o := .cells #[.int .i64 a2_0, .int .i64 a2_1] 33 (0, 0)) (kl BK151) hb); have n4_ := aM (bS (bl) hb); clear BK149 BK150 BK151 HB; have HO154 := n0_; have BK149 := n1_; have BK150 := n2_; have BK151 := n3_; have HB := n4_; clear n0_ n1_ n2_ n3_ n4_ hb ho16; obtain ⟨Ao17, co17, eo17⟩ := Kd.R_slice HO154.out; subst eo17) | ((with_reducible refine gate_callee (f := 62) rfl ?_); refine goesL_ (some 11) rfl rfl Try.func62 (by kernel_rfl) rfl #[.slice Ao17 y152.length co17] rfl (by (try simp only [List.map_toArray, List.map_cons, List.map_nil]); first | done | rfl | (simp only [List.length_drop, List.length_take]; rfl)) ?_; (with_reducible refine (seg_valid.calls k _ _ y152 true _ ?side1 ?side2 A4.out).mono ?_); (case side1 => repeat (first | exact (rR HO154.out).2.2 | (with_reducible refine cA ?_ _) | (with_reducible refine cN ?_ _) | (with_reducible refine cD ?_))); (case side2 => exact (rR HO154.out).2.1); rintro e w18 ⟨rfl, hb⟩; refine ⟨_, rfl, ?_⟩; have n0_ := aM (rB (rl HO154) hb); have n1_ := aM (kB (g := gb149) (o := .cells #[.int .i64 a0_0, .int .i64 a0_1] 33 (0, 0)) (kl BK149) hb); have n2_ := aM (kB (g := gb150) (o := .cells #[.int .i64 a1_0, .int .i64 a1_1] 33 (0, 0)) (kl BK150) hb); have n3_ := aM (kB (g := gb151) (o := .cells #[.int .i64 a2_0, .int .i64 a2_1] 33 (0, 0)) (kl BK151) hb); have n4_ := aM (bS (bl) hb); clear HO154 BK149 BK150 BK151 HB; have HO154 := n0_; have BK149 := n1_; have BK150 := n2_; have BK151 := n3_; have HB := n4_; clear n0_ n1_ n2_ n3_ n4_; (try clear hb); (try clear hb2); (try clear hk); (try clear hi); have hcz19_0 : w18.cell? ⟨gb150, 0, none⟩ = some (.int .i64 a1_0) := (kC BK150.out 0).trans rfl; have hcz19_1 : w18.cell? ⟨gb150, 1, none⟩ = some (.int .i64 a1_1) := (kC BK150.out 1).trans rfl; have hfz19_0 := kF BK150.out 0; have hfz19_1 := kF BK150.out 1; have hcz20_0 : w18.cell? ⟨gb149, 0, none⟩ = some (.int .i64 a0_0) := (kC BK149.out 0).trans rfl; have hcz20_1 : w18.cell? ⟨gb149, 1, none⟩ = some (.int .i64 a0_1) := (kC BK149.out 1).trans rfl; have hfz20_0 := kF BK149.out 0; have hfz20_1 := kF BK149.out 1; have hcz21_0 : w18.cell? ⟨gb151, 0, none⟩ = some (.int .i64 a2_0) := (kC BK151.out 0).trans rfl; have hcz21_1 : w18.cell? ⟨gb151, 1, none⟩ = some (.int .i64 a2_1) := (kC BK151.out 1).trans rfl; have hfz21_0 := kF BK151.out 0; have hfz21_1 := kF BK151.out 1))
  go_ret
  exact ⟨by first | rfl | (simp [errW_none, errW_some] <;> rfl) | (simp [*, errW_none, errW_some] <;> rfl), bl⟩
 ·replace c5 := Bool.eq_false_iff.mpr c5
  subst c5
  have H1 : (some 0) = some r := by rw [if_neg (show ¬ (false = true) by decide)] at H; exact H
  clear H
  have H := H1
  clear H1
  obtain rfl := Option.some.inj H
  go_enter Try.func64, Try.ntmps64
  go_wp2_with (first | ((with_reducible refine gate_dst (N := 3) rfl ?_); refine box_event ?hg (N := 3) ?hd (cs := #[.int .i64 a0_0, .int .i64 a0_1]) (t := 33) ?hr ?_; (case hd => rfl); (case hg => rfl); (case hr => first | (go_simp; done) | (go_simp; rfl)); intro gb149 hg w22 hbox hb; have n0_ := aM (bS (bl) hb); have n1_ := aM (hbox); have n2_ := aM ((by rw [hg]; exact (below_size (bl)) : w.heap.size ≤ gb149)); have n3_ := aM ((by rw [hg]; exact (below_size (bl)) : w.heap.size ≤ gb149)); clear HB; have HB := n0_; have BK149 := n1_; have GW149 := n2_; have GE149 := n3_; clear n0_ n1_ n2_ n3_ hb hbox hg) | ((with_reducible refine gate_dst (N := 4) rfl ?_); refine box_event ?hg (N := 4) ?hd (cs := #[.int .i64 a1_0, .int .i64 a1_1]) (t := 33) ?hr ?_; (case hd => rfl); (case hg => rfl); (case hr => first | (go_simp; done) | (go_simp; rfl)); intro gb150 hg w23 hbox hb; have n0_ := aM (kB (g := gb149) (o := .cells #[.int .i64 a0_0, .int .i64 a0_1] 33 (0, 0)) (kl BK149) hb); have n1_ := aM (bS (bl) hb); have n2_ := aM (hbox); have n3_ := aM ((by rw [hg]; exact (below_size (bl)) : w.heap.size ≤ gb150)); have n4_ := aM ((by rw [hg]; exact (below_size (bl)) : w.heap.size ≤ gb150)); have n5_ := aM ((by rw [hg]; exact Nat.ne_of_lt (blk_lt (g := gb149) (o := .cells #[.int .i64 a0_0, .int .i64 a0_1] 33 (0, 0)) (kl BK149)) : gb149 ≠ gb150)); have n6_ := aM ((by rw [hg]; exact Nat.ne_of_gt (blk_lt (g := gb149) (o := .cells #[.int .i64 a0_0, .int .i64 a0_1] 33 (0, 0)) (kl BK149)) : gb150 ≠ gb149)); clear BK149 HB; have BK149 := n0_; have HB := n1_; have BK150 := n2_; have GW150 := n3_; have GE150 := n4_; have NB149_150 := n5_; have NB150_149 := n6_; clear n0_ n1_ n2_ n3_ n4_ n5_ n6_ hb hbox hg) | ((with_reducible refine gate_dst (N := 5) rfl ?_); refine box_event ?hg (N := 5) ?hd (cs := #[.int .i64 a2_0, .int .i64 a2_1]) (t := 33) ?hr ?_; (case hd => rfl); (case hg => rfl); (case hr => first | (go_simp; done) | (go_simp; rfl)); intro gb151 hg w24 hbox hb; have n0_ := aM (kB (g := gb149) (o := .cells #[.int .i64 a0_0, .int .i64 a0_1] 33 (0, 0)) (kl BK149) hb); have n1_ := aM (kB (g := gb150) (o := .cells #[.int .i64 a1_0, .int .i64 a1_1] 33 (0, 0)) (kl BK150) hb); have n2_ := aM (bS (bl) hb); have n3_ := aM (hbox); have n4_ := aM ((by rw [hg]; exact (below_size (bl)) : w.heap.size ≤ gb151)); have n5_ := aM ((by rw [hg]; exact (below_size (bl)) : w.heap.size ≤ gb151)); have n6_ := aM ((by rw [hg]; exact Nat.ne_of_lt (blk_lt (g := gb149) (o := .cells #[.int .i64 a0_0, .int .i64 a0_1] 33 (0, 0)) (kl BK149)) : gb149 ≠ gb151)); have n7_ := aM ((by rw [hg]; exact Nat.ne_of_gt (blk_lt (g := gb149) (o := .cells #[.int .i64 a0_0, .int .i64 a0_1] 33 (0, 0)) (kl BK149)) : gb151 ≠ gb149)); have n8_ := aM ((by rw [hg]; exact Nat.ne_of_lt (blk_lt (g := gb150) (o := .cells #[.int .i64 a1_0, .int .i64 a1_1] 33 (0, 0)) (kl BK150)) : gb150 ≠ gb151)); have n9_ := aM ((by rw [hg]; exact Nat.ne_of_gt (blk_lt (g := gb150) (o := .cells #[.int .i64 a1_0, .int .i64 a1_1] 33 (0, 0)) (kl BK150)) : gb151 ≠ gb150)); clear BK149 BK150 HB; have BK149 := n0_; have BK150 := n1_; have HB := n2_; have BK151 := n3_; have GW151 := n4_; have GE151 := n5_; have NB149_151 := n6_; have NB151_149 := n7_; have NB150_151 := n8_; have NB151_150 := n9_; clear n0_ n1_ n2_ n3_ n4_ n5_ n6_ n7_ n8_ n9_ hb hbox hg; have hnb25 := NB149_150.out; have hnc25 := NB150_149.out; have hnb26 := NB149_151.out; have hnc26 := NB151_149.out; have hcz27_0 : w24.cell? ⟨gb149, 0, none⟩ = some (.int .i64 a0_0) := (kC BK149.out 0).trans rfl; have hcz27_1 : w24.cell? ⟨gb149, 1, none⟩ = some (.int .i64 a0_1) := (kC BK149.out 1).trans rfl; have hfz27_0 := kF BK149.out 0; have hfz27_1 := kF BK149.out 1; have hnb28 := NB150_151.out; have hnc28 := NB151_150.out; have hcz29_0 : w24.cell? ⟨gb150, 0, none⟩ = some (.int .i64 a1_0) := (kC BK150.out 0).trans rfl; have hcz29_1 : w24.cell? ⟨gb150, 1, none⟩ = some (.int .i64 a1_1) := (kC BK150.out 1).trans rfl; have hfz29_0 := kF BK150.out 0; have hfz29_1 := kF BK150.out 1; have hcz30_0 : w24.cell? ⟨gb151, 0, none⟩ = some (.int .i64 a2_0) := (kC BK151.out 0).trans rfl; have hcz30_1 : w24.cell? ⟨gb151, 1, none⟩ = some (.int .i64 a2_1) := (kC BK151.out 1).trans rfl; have hfz30_0 := kF BK151.out 0; have hfz30_1 := kF BK151.out 1) | ((with_reducible refine gate_dst (N := 10) rfl ?_); refine Kd.R_lit k33 _ 33 ?hg (N := 10) ?hd (xs := ([(⟨a0_0, a0_1⟩ : S33), (⟨a1_0, a1_1⟩ : S33), (⟨a2_0, a2_1⟩ : S33)] : List (S33))) (inner := [.int .i64 a0_0, .int .i64 a0_1, .int .i64 a1_0, .int .i64 a1_1, .int .i64 a2_0, .int .i64 a2_1]) (ok := fun _ => True) (okp := fun _ => True) ?hr ?hp (fun _ hk => hk) trivial (Below.refl _ _) (Nat.le_refl _) (by simp) ?_; (case hd => rfl); (case hg => rfl); (case hr => first | (go_simp; done) | (go_simp; rfl)); (case hp => exact (Reps.c2 (show Kd.M k33 _ _ _ (⟨a0_0, a0_1⟩ : S33) [.int .i64 a0_0, .int .i64 a0_1] from (k33_mkM _ _ _ (⟨a0_0, a0_1⟩ : S33) )) (Reps.c2 (show Kd.M k33 _ _ _ (⟨a1_0, a1_1⟩ : S33) [.int .i64 a1_0, .int .i64 a1_1] from (k33_mkM _ _ _ (⟨a1_0, a1_1⟩ : S33) )) (Reps.c2 (show Kd.M k33 _ _ _ (⟨a2_0, a2_1⟩ : S33) [.int .i64 a2_0, .int .i64 a2_1] from (k33_mkM _ _ _ (⟨a2_0, a2_1⟩ : S33) )) (Reps.none _ _))))); intro v153 w31 ho32 hb hg_ hnew_; clear hg_ hnew_; (first | rw [← Ny152.out] at ho32 | (simp only [Int.reduceToNat] at ho32; rw [← Ny152.out] at ho32)); have n0_ := aM (Kd.R_lower (Kd.R_newB (Kd.R_newB (Kd.R_newB ho32 (g := gb149) (o := .cells #[.int .i64 a0_0, .int .i64 a0_1] 33 (0, 0)) (kl BK149)) (g := gb150) (o := .cells #[.int .i64 a1_0, .int .i64 a1_1] 33 (0, 0)) (kl BK150)) (g := gb151) (o := .cells #[.int .i64 a2_0, .int .i64 a2_1] 33 (0, 0)) (kl BK151)) (below_size (bl))); have n1_ := aM (kB (g := gb149) (o := .cells #[.int .i64 a0_0, .int .i64 a0_1] 33 (0, 0)) (kl BK149) hb); have n2_ := aM (kB (g := gb150) (o := .cells #[.int .i64 a1_0, .int .i64 a1_1] 33 (0, 0)) (kl BK150) hb); have n3_ := aM (kB (g := gb151) (o := .cells #[.int .i64 a2_0, .int .i64 a2_1] 33 (0, 0)) (kl BK151) hb); have n4_ := aM (bS (bl) hb); clear BK149 BK150 BK151 HB; have HO154 := n0_; have BK149 := n1_; have BK150 := n2_; have BK151 := n3_; have HB := n4_; clear n0_ n1_ n2_ n3_ n4_ hb ho32; obtain ⟨Ao33, co33, eo33⟩ := Kd.R_slice HO154.out; subst eo33) | ((with_reducible refine gate_callee (f := 62) rfl ?_); refine goesL_ (some 11) rfl rfl Try.func62 (by kernel_rfl) rfl #[.slice Ao33 y152.length co33] rfl (by (try simp only [List.map_toArray, List.map_cons, List.map_nil]); first | done | rfl | (simp only [List.length_drop, List.length_take]; rfl)) ?_; (with_reducible refine (seg_valid.calls k _ _ y152 false _ ?side1 ?side2 A4.out).mono ?_); (case side1 => repeat (first | exact (rR HO154.out).2.2 | (with_reducible refine cA ?_ _) | (with_reducible refine cN ?_ _) | (with_reducible refine cD ?_))); (case side2 => exact (rR HO154.out).2.1); rintro e w34 ⟨rfl, hb⟩; refine ⟨_, rfl, ?_⟩; have n0_ := aM (rB (rl HO154) hb); have n1_ := aM (kB (g := gb149) (o := .cells #[.int .i64 a0_0, .int .i64 a0_1] 33 (0, 0)) (kl BK149) hb); have n2_ := aM (kB (g := gb150) (o := .cells #[.int .i64 a1_0, .int .i64 a1_1] 33 (0, 0)) (kl BK150) hb); have n3_ := aM (kB (g := gb151) (o := .cells #[.int .i64 a2_0, .int .i64 a2_1] 33 (0, 0)) (kl BK151) hb); have n4_ := aM (bS (bl) hb); clear HO154 BK149 BK150 BK151 HB; have HO154 := n0_; have BK149 := n1_; have BK150 := n2_; have BK151 := n3_; have HB := n4_; clear n0_ n1_ n2_ n3_ n4_; (try clear hb); (try clear hb2); (try clear hk); (try clear hi)))
  go_ret
  exact ⟨by first | rfl | (simp [errW_none, errW_some] <;> rfl) | (simp [*, errW_none, errW_some] <;> rfl), bl⟩
def OnW (w W : World) (a0_0 a0_1 a1_0 a1_1 a2_0 a2_1 : Int) : Prop := (W.cell? ⟨w.heap.size, 0, none⟩ = some (.int .i64 a0_0) ∧ W.cell? ⟨w.heap.size, 1, none⟩ = some (.int .i64 a0_1) ∧ W.cell? ⟨w.heap.size + 1, 0, none⟩ = some (.int .i64 a1_0) ∧ W.cell? ⟨w.heap.size + 1, 1, none⟩ = some (.int .i64 a1_1) ∧ W.cell? ⟨w.heap.size + 1 + 1, 0, none⟩ = some (.int .i64 a2_0) ∧ W.cell? ⟨w.heap.size + 1 + 1, 1, none⟩ = some (.int .i64 a2_1)) ∧ Below w.heap.size w W ∧ w.heap.size + 1 + 1 + 1 ≤ W.heap.size
theorem OnW.step {w W W' : World} {a0_0 a0_1 a1_0 a1_1 a2_0 a2_1 : Int} (h : OnW w W a0_0 a0_1 a1_0 a1_1 a2_0 a2_1) (hb : Below W.heap.size W W') : OnW w W' a0_0 a0_1 a1_0 a1_1 a2_0 a2_1 := by
 obtain ⟨⟨h0, h1, h2, h3, h4, h5⟩, hB, hs⟩ := h
 have g : ∀ (b i : Nat) (v : Value), b < W.heap.size → W.cell? ⟨b, i, none⟩ = some v → W'.cell? ⟨b, i, none⟩ = some v := fun b i v hb' hv => (hb.cell (p := ⟨b, i, none⟩) hb').trans hv
 exact ⟨⟨g _ _ _ (by omega) h0, g _ _ _ (by omega) h1, g _ _ _ (by omega) h2, g _ _ _ (by omega) h3, g _ _ _ (by omega) h4, g _ _ _ (by omega) h5⟩, bS hB hb, by have := hb.size; omega⟩
def seg_On.f (k : Nat) (a0_0 : Int) (a0_1 : Int) (a1_0 : Int) (a1_1 : Int) (a2_0 : Int) (a2_1 : Int) : Option (Bool) := (seg_valid.f k [⟨a0_0, a0_1⟩, ⟨a1_0, a1_1⟩, ⟨a2_0, a2_1⟩]).bind fun v => if v = true then ((seg_Turn.f k a1_0 a1_1 a2_0 a2_1 a0_0 a0_1).bind fun t => if t = 0 then ((seg_Of.f a1_0 a1_1 a2_0 a2_1).bind fun s => some (decide (a0_0 ≥ s.1) && (decide (a0_0 ≤ s.2.2.1) && (decide (a0_1 ≥ min a1_1 a2_1) && decide (a0_1 ≤ max a1_1 a2_1))))) else some false) else some false
theorem seg_On.mono : ∀ (a0_0 : Int) (a0_1 : Int) (a1_0 : Int) (a1_1 : Int) (a2_0 : Int) (a2_1 : Int) (k : Nat), LeO (seg_On.f k a0_0 a0_1 a1_0 a1_1 a2_0 a2_1) (seg_On.f (k + 1) a0_0 a0_1 a1_0 a1_1 a2_0 a2_1) := by
 intro _ _ _ _ _ _ k
 unfold seg_On.f
 refine LeO.bind (seg_valid.mono _ _) (fun v => LeO.ite (LeO.bind (seg_Turn.mono _ _ _ _ _ _ _) (fun t => LeO.refl _)) (LeO.refl _))
set_option maxHeartbeats 8000000 in
set_option maxRecDepth 100000 in
theorem seg_On.calls (k : Nat) (a0_0 : Int) (a0_1 : Int) (a1_0 : Int) (a1_1 : Int) (a2_0 : Int) (a2_1 : Int) (r : Bool) (w : World) (h : seg_On.f k a0_0 a0_1 a1_0 a1_1 a2_0 a2_1 = some r) :
  Calls Try.prog 60 #[.agg #[.int .i64 a0_0, .int .i64 a0_1], .agg #[.int .i64 a1_0, .int .i64 a1_1], .agg #[.int .i64 a2_0, .int .i64 a2_1]] w fun e w' => e = .returned (.bool r) ∧ Below w.heap.size w w' := by
 have mixed : Try.prog.follows Departure.mixedOrders = true := by kernel_rfl
 obtain ⟨v, hv, h⟩ := Option.bind_eq_some_iff.mp (show (seg_valid.f k [⟨a0_0, a0_1⟩, ⟨a1_0, a1_1⟩, ⟨a2_0, a2_1⟩]).bind _ = some r from h)
 obtain ⟨wb, hwb⟩ : ∃ wb, wb = ((w.alloc (.cells #[.int .i64 a0_0, .int .i64 a0_1] 33)).alloc (.cells #[.int .i64 a1_0, .int .i64 a1_1] 33)).alloc (.cells #[.int .i64 a2_0, .int .i64 a2_1] 33) := ⟨_, rfl⟩
 have hbb : Below w.heap.size w wb := by rw [hwb]; exact (((Below.refl _ w).alloc (by omega) _).alloc (by simp) _).alloc (by simp; omega) _
 have hsz : wb.heap.size = w.heap.size + 1 + 1 + 1 := by rw [hwb]; simp
 have hp0 : wb.cell? ⟨w.heap.size, 0, none⟩ = some (.int .i64 a0_0) := by rw [hwb]; (first | rw [World.cell?_alloc_past (hn := by simp; omega)] | rw [World.cell?_alloc_past (hn := by simp)]); (first | rw [World.cell?_alloc_past (hn := by simp; omega)] | rw [World.cell?_alloc_past (hn := by simp)]); rw [World.cell?_alloc_at (hn := by simp)]; rfl
 have hp1 : wb.cell? ⟨w.heap.size, 1, none⟩ = some (.int .i64 a0_1) := by rw [hwb]; (first | rw [World.cell?_alloc_past (hn := by simp; omega)] | rw [World.cell?_alloc_past (hn := by simp)]); (first | rw [World.cell?_alloc_past (hn := by simp; omega)] | rw [World.cell?_alloc_past (hn := by simp)]); rw [World.cell?_alloc_at (hn := by simp)]; rfl
 have ha0 : wb.cell? ⟨w.heap.size + 1, 0, none⟩ = some (.int .i64 a1_0) := by rw [hwb]; (first | rw [World.cell?_alloc_past (hn := by simp; omega)] | rw [World.cell?_alloc_past (hn := by simp)]); rw [World.cell?_alloc_at (hn := by simp)]; rfl
 have ha1 : wb.cell? ⟨w.heap.size + 1, 1, none⟩ = some (.int .i64 a1_1) := by rw [hwb]; (first | rw [World.cell?_alloc_past (hn := by simp; omega)] | rw [World.cell?_alloc_past (hn := by simp)]); rw [World.cell?_alloc_at (hn := by simp)]; rfl
 have hb0 : wb.cell? ⟨w.heap.size + 2, 0, none⟩ = some (.int .i64 a2_0) := by rw [hwb]; rw [World.cell?_alloc_at (hn := by simp)]; rfl
 have hb1 : wb.cell? ⟨w.heap.size + 2, 1, none⟩ = some (.int .i64 a2_1) := by rw [hwb]; rw [World.cell?_alloc_at (hn := by simp)]; rfl
 have hrow : Kd.C k33 (wb.alloc (.cells #[.int .i64 a0_0, .int .i64 a0_1, .int .i64 a1_0, .int .i64 a1_1, .int .i64 a2_0, .int .i64 a2_1] 33)) (some ⟨wb.heap.size, 0, none⟩) 3 [⟨a0_0, a0_1⟩, ⟨a1_0, a1_1⟩, ⟨a2_0, a2_1⟩] :=
  (rR (R_of_alloc k33 (W := wb) 0 33 (xs := [⟨a0_0, a0_1⟩, ⟨a1_0, a1_1⟩, ⟨a2_0, a2_1⟩]) (inner := [.int .i64 a0_0, .int .i64 a0_1, .int .i64 a1_0, .int .i64 a1_1, .int .i64 a2_0, .int .i64 a2_1]) (ok := fun _ => True) (okp := fun _ => True) (Reps.c2 (show Kd.M k33 _ _ _ (⟨a0_0, a0_1⟩ : S33) [.int .i64 a0_0, .int .i64 a0_1] from (k33_mkM _ _ _ (⟨a0_0, a0_1⟩ : S33))) (Reps.c2 (show Kd.M k33 _ _ _ (⟨a1_0, a1_1⟩ : S33) [.int .i64 a1_0, .int .i64 a1_1] from (k33_mkM _ _ _ (⟨a1_0, a1_1⟩ : S33))) (Reps.c2 (show Kd.M k33 _ _ _ (⟨a2_0, a2_1⟩ : S33) [.int .i64 a2_0, .int .i64 a2_1] from (k33_mkM _ _ _ (⟨a2_0, a2_1⟩ : S33))) (Reps.none _ _)))) (fun _ _ => trivial) trivial (by omega) (by simp))).2.2
 have HV0 := seg_valid.calls k (some ⟨wb.heap.size, 0, none⟩) 3 _ v _ hrow (Nat.le_refl _) hv
 have HW := aM (show OnW w wb a0_0 a0_1 a1_0 a1_1 a2_0 a2_1 from ⟨⟨hp0, hp1, ha0, ha1, hb0, hb1⟩, hbb, by omega⟩)
 rw [hsz] at HV0
 rw [hwb] at HV0
 have HV := aM HV0
 have HS := aM hsz
 clear hrow hv HV0 hp0 hp1 ha0 ha1 hb0 hb1 hbb hsz
 have hrow2 : Below wb.heap.size wb (wb.alloc (.cells #[.int .i64 a0_0, .int .i64 a0_1, .int .i64 a1_0, .int .i64 a1_1, .int .i64 a2_0, .int .i64 a2_1] 33)) := (Below.refl _ _).alloc (Nat.le_refl _) _
 have HW2 := aM (HW.out.step hrow2)
 clear hrow2
 cases v with
 | false =>
  obtain rfl := Option.some.inj (show some false = some r from h)
  go_enter Try.func60, Try.ntmps60
  go_wp2_with (first | (go_at_call 62; refine HV.out.mono ?_; rintro e w5 ⟨rfl, hb5⟩; rw [← hwb] at hb5; have H5 := aM (HW2.out.step hb5); clear hb5) | go_in)
  go_ret
  exact ⟨rfl, H5.out.2.1⟩
 | true =>
  obtain ⟨t, ht, h⟩ := Option.bind_eq_some_iff.mp (show (seg_Turn.f k a1_0 a1_1 a2_0 a2_1 a0_0 a0_1).bind _ = some r from h)
  have HT := aM ht
  clear ht
  by_cases ht0 : t = 0
  ·subst ht0
   obtain ⟨⟨s0, s1, s2, s3⟩, hs, h⟩ := Option.bind_eq_some_iff.mp (show (seg_Of.f a1_0 a1_1 a2_0 a2_1).bind _ = some r from h)
   have HSG := aM hs
   have HE := aM (Option.some.inj h)
   clear hs h
   go_enter Try.func60, Try.ntmps60
   go_wp2_with (first
    | (go_at_call 62; refine HV.out.mono ?_; rintro e w5 ⟨rfl, hb5⟩; rw [← hwb] at hb5; have H5 := aM (HW2.out.step hb5); clear hb5; obtain ⟨⟨hp0, hp1, ha0, ha1, hb0, hb1⟩, _, _⟩ := H5.out)
    | (go_at_call 64; refine (seg_Turn.calls k a1_0 a1_1 a2_0 a2_1 a0_0 a0_1 0 _ HT.out).mono ?_; rintro e w6 ⟨rfl, hb6⟩; have H6 := aM (H5.out.step hb6); clear hb6 hp0 hp1 ha0 ha1 hb0 hb1; obtain ⟨⟨hp0, hp1, ha0, ha1, hb0, hb1⟩, _, _⟩ := H6.out)
    | (go_at_call 54; refine (seg_Of.calls a1_0 a1_1 a2_0 a2_1 s0 s1 s2 s3 _ HSG.out).mono ?_; rintro e w7 ⟨rfl, hb7⟩; have H7 := aM (H6.out.step hb7); clear hb7 hp0 hp1 ha0 ha1 hb0 hb1; have H8 := aM (H7.out.step ((Below.refl _ w7).alloc (Nat.le_refl _) (.cells #[.int .i64 s0, .int .i64 s1, .int .i64 s2, .int .i64 s3] 35))); obtain ⟨⟨hp0, hp1, ha0, ha1, hb0, hb1⟩, _, hz8⟩ := H8.out)
    | go_in)
   have hs0 : (w7.alloc (.cells #[.int .i64 s0, .int .i64 s1, .int .i64 s2, .int .i64 s3] 35)).cell? ⟨w7.heap.size, 0, none⟩ = some (.int .i64 s0) := by simp
   have hs2 : (w7.alloc (.cells #[.int .i64 s0, .int .i64 s1, .int .i64 s2, .int .i64 s3] 35)).cell? ⟨w7.heap.size, 2, none⟩ = some (.int .i64 s2) := by simp
   generalize w7.alloc (.cells #[.int .i64 s0, .int .i64 s1, .int .i64 s2, .int .i64 s3] 35) = wz at hs0 hs2 hp0 hp1 ha0 ha1 hb0 hb1 H8 hz8 ⊢
   go_region
   have emn : min a1_1 a2_1 = (if a2_1 < a1_1 then a2_1 else a1_1) := by rw [Int.min_def]; split <;> split <;> omega
   have emx : max a1_1 a2_1 = (if a1_1 < a2_1 then a2_1 else a1_1) := by rw [Int.max_def]; split <;> split <;> omega
   have HE2 := HE.out
   clear HE
   simp only [emn, emx] at HE2
   clear emn emx
   generalize (if a2_1 < a1_1 then a2_1 else a1_1) = mn at HE2 ⊢
   generalize (if a1_1 < a2_1 then a2_1 else a1_1) = mx at HE2 ⊢
   have HE := aM HE2
   clear HE2
   by_cases k0 : a0_0 ≥ s0
   case neg =>
    have d0 : decide (a0_0 ≥ s0) = false := decide_eq_false k0
    clear k0
    go_wp2
    go_ret
    exact ⟨by rw [← HE.out]; simp [d0], bS H8.out.2.1 ((Below.refl _ wz).drew)⟩
   have d0 : decide (a0_0 ≥ s0) = true := decide_eq_true k0
   clear k0
   by_cases k1 : a0_0 ≤ s2
   case neg =>
    have d1 : decide (a0_0 ≤ s2) = false := decide_eq_false k1
    clear k1
    go_wp2
    go_ret
    exact ⟨by rw [← HE.out]; simp [d0, d1], bS H8.out.2.1 ((Below.refl _ wz).drew)⟩
   have d1 : decide (a0_0 ≤ s2) = true := decide_eq_true k1
   clear k1
   by_cases k2 : a0_1 ≥ mn
   case neg =>
    have d2 : decide (a0_1 ≥ mn) = false := decide_eq_false k2
    clear k2
    go_wp2
    go_ret
    exact ⟨by rw [← HE.out]; simp [d0, d1, d2], bS H8.out.2.1 ((Below.refl _ wz).drew)⟩
   have d2 : decide (a0_1 ≥ mn) = true := decide_eq_true k2
   clear k2
   by_cases k3 : a0_1 ≤ mx
   case neg =>
    have d3 : decide (a0_1 ≤ mx) = false := decide_eq_false k3
    clear k3
    go_wp2
    go_ret
    exact ⟨by rw [← HE.out]; simp [d0, d1, d2, d3], bS H8.out.2.1 ((Below.refl _ wz).drew)⟩
   have d3 : decide (a0_1 ≤ mx) = true := decide_eq_true k3
   clear k3
   go_wp2
   go_ret
   exact ⟨by rw [← HE.out]; simp [d0, d1, d2, d3], bS H8.out.2.1 ((Below.refl _ wz).drew)⟩
  ·obtain rfl := Option.some.inj (show some false = some r from by rw [← h, if_neg ht0])
   have e0 : (t != 0) = true := bne_iff_ne.mpr ht0
   go_enter Try.func60, Try.ntmps60
   go_wp2_with (first
    | (go_at_call 62; refine HV.out.mono ?_; rintro e w5 ⟨rfl, hb5⟩; rw [← hwb] at hb5; have H5 := aM (HW2.out.step hb5); clear hb5; obtain ⟨⟨hp0, hp1, ha0, ha1, hb0, hb1⟩, _, _⟩ := H5.out)
    | (go_at_call 64; refine (seg_Turn.calls k a1_0 a1_1 a2_0 a2_1 a0_0 a0_1 t _ HT.out).mono ?_; rintro e w6 ⟨rfl, hb6⟩; have H6 := aM (H5.out.step hb6); clear hb6)
    | go_in)
   go_ret
   exact ⟨rfl, H6.out.2.1⟩
def seg_Within.f (k : Nat) (a0_0 : Int) (a0_1 : Int) (a1_0 : Int) (a1_1 : Int) (a2_0 : Int) (a2_1 : Int) : Option (Bool) := (seg_On.f k a0_0 a0_1 a1_0 a1_1 a2_0 a2_1).bind fun t159 => (if t159 = true then (if (!(a0_0 == a1_0) || (!(a0_1 == a1_1))) = true then (some (!(a0_0 == a2_0) || (!(a0_1 == a2_1)))) else (some false)) else (some false))
theorem seg_Within.mono : ∀ a0 a1 a2 a3 a4 a5 k, LeO (seg_Within.f k a0 a1 a2 a3 a4 a5) (seg_Within.f (k + 1) a0 a1 a2 a3 a4 a5) := by
 intro a0 a1 a2 a3 a4 a5 k
 unfold seg_Within.f
 repeat' first
   | (with_reducible exact seg_On.mono _ _ _ _ _ _ _)
   | (with_reducible exact LeO.refl _)
   | (with_reducible exact LeO.none _)
   | (with_reducible refine LeO.ite ?_ ?_)
   | (with_reducible refine LeO.bind ?_ (fun _ => ?_))
   | exact seg_On.mono _ _ _ _ _ _ _
   | exact LeO.none _
   | refine LeO.ite ?_ ?_
   | refine LeO.bind ?_ (fun _ => ?_)
set_option maxHeartbeats 8000000 in
set_option maxRecDepth 100000 in
theorem seg_Within.calls (k : Nat) (a0_0 : Int) (a0_1 : Int) (a1_0 : Int) (a1_1 : Int) (a2_0 : Int) (a2_1 : Int) (r : Bool) (w : World) (h : seg_Within.f k a0_0 a0_1 a1_0 a1_1 a2_0 a2_1 = some r) :
  Calls Try.prog 43 #[.agg #[.int .i64 a0_0, .int .i64 a0_1], .agg #[.int .i64 a1_0, .int .i64 a1_1], .agg #[.int .i64 a2_0, .int .i64 a2_1]] w fun e w' => e = .returned (.bool r) ∧ Below w.heap.size w w' := by
 have hu33 := Try.underlying33
 have HB := aM (Below.refl w.heap.size w)
 have H : ((seg_On.f k a0_0 a0_1 a1_0 a1_1 a2_0 a2_1).bind fun t159 => (if t159 = true then (if (!(a0_0 == a1_0) || (!(a0_1 == a1_1))) = true then (some (!(a0_0 == a2_0) || (!(a0_1 == a2_1)))) else (some false)) else (some false))) = some r := h
 clear h
 replace H := Option.bind_eq_some_iff.mp H
 obtain ⟨t159, A40, H⟩ := H
 try dsimp only at H
 have A4 := aM A40
 clear A40
 by_cases c5 : t159 = true
 ·subst c5
  have H1 : (if (!(a0_0 == a1_0) || (!(a0_1 == a1_1))) = true then (some (!(a0_0 == a2_0) || (!(a0_1 == a2_1)))) else (some false)) = some r := by rw [if_pos rfl] at H; exact H
  clear H
  have H := H1
  clear H1
  by_cases c6 : (!(a0_0 == a1_0) || (!(a0_1 == a1_1))) = true
  ·rw [if_pos c6] at H
   have c6b0 : (!(a0_0 == a1_0) || (!(a0_1 == a1_1))) = true := c6
   clear c6
   obtain rfl := Option.some.inj H
   go_enter Try.func43, Try.ntmps43
   go_wp2_with (first | ((with_reducible refine gate_dst (N := 3) rfl ?_); refine box_event ?hg (N := 3) ?hd (cs := #[.int .i64 a0_0, .int .i64 a0_1]) (t := 33) ?hr ?_; (case hd => rfl); (case hg => rfl); (case hr => first | (go_simp; done) | (go_simp; rfl)); intro gb156 hg w7 hbox hb; have n0_ := aM (bS (bl) hb); have n1_ := aM (hbox); have n2_ := aM ((by rw [hg]; exact (below_size (bl)) : w.heap.size ≤ gb156)); have n3_ := aM ((by rw [hg]; exact (below_size (bl)) : w.heap.size ≤ gb156)); clear HB; have HB := n0_; have BK156 := n1_; have GW156 := n2_; have GE156 := n3_; clear n0_ n1_ n2_ n3_ hb hbox hg) | ((with_reducible refine gate_dst (N := 4) rfl ?_); refine box_event ?hg (N := 4) ?hd (cs := #[.int .i64 a1_0, .int .i64 a1_1]) (t := 33) ?hr ?_; (case hd => rfl); (case hg => rfl); (case hr => first | (go_simp; done) | (go_simp; rfl)); intro gb157 hg w8 hbox hb; have n0_ := aM (kB (g := gb156) (o := .cells #[.int .i64 a0_0, .int .i64 a0_1] 33 (0, 0)) (kl BK156) hb); have n1_ := aM (bS (bl) hb); have n2_ := aM (hbox); have n3_ := aM ((by rw [hg]; exact (below_size (bl)) : w.heap.size ≤ gb157)); have n4_ := aM ((by rw [hg]; exact (below_size (bl)) : w.heap.size ≤ gb157)); have n5_ := aM ((by rw [hg]; exact Nat.ne_of_lt (blk_lt (g := gb156) (o := .cells #[.int .i64 a0_0, .int .i64 a0_1] 33 (0, 0)) (kl BK156)) : gb156 ≠ gb157)); have n6_ := aM ((by rw [hg]; exact Nat.ne_of_gt (blk_lt (g := gb156) (o := .cells #[.int .i64 a0_0, .int .i64 a0_1] 33 (0, 0)) (kl BK156)) : gb157 ≠ gb156)); clear BK156 HB; have BK156 := n0_; have HB := n1_; have BK157 := n2_; have GW157 := n3_; have GE157 := n4_; have NB156_157 := n5_; have NB157_156 := n6_; clear n0_ n1_ n2_ n3_ n4_ n5_ n6_ hb hbox hg) | ((with_reducible refine gate_dst (N := 5) rfl ?_); refine box_event ?hg (N := 5) ?hd (cs := #[.int .i64 a2_0, .int .i64 a2_1]) (t := 33) ?hr ?_; (case hd => rfl); (case hg => rfl); (case hr => first | (go_simp; done) | (go_simp; rfl)); intro gb158 hg w9 hbox hb; have n0_ := aM (kB (g := gb156) (o := .cells #[.int .i64 a0_0, .int .i64 a0_1] 33 (0, 0)) (kl BK156) hb); have n1_ := aM (kB (g := gb157) (o := .cells #[.int .i64 a1_0, .int .i64 a1_1] 33 (0, 0)) (kl BK157) hb); have n2_ := aM (bS (bl) hb); have n3_ := aM (hbox); have n4_ := aM ((by rw [hg]; exact (below_size (bl)) : w.heap.size ≤ gb158)); have n5_ := aM ((by rw [hg]; exact (below_size (bl)) : w.heap.size ≤ gb158)); have n6_ := aM ((by rw [hg]; exact Nat.ne_of_lt (blk_lt (g := gb156) (o := .cells #[.int .i64 a0_0, .int .i64 a0_1] 33 (0, 0)) (kl BK156)) : gb156 ≠ gb158)); have n7_ := aM ((by rw [hg]; exact Nat.ne_of_gt (blk_lt (g := gb156) (o := .cells #[.int .i64 a0_0, .int .i64 a0_1] 33 (0, 0)) (kl BK156)) : gb158 ≠ gb156)); have n8_ := aM ((by rw [hg]; exact Nat.ne_of_lt (blk_lt (g := gb157) (o := .cells #[.int .i64 a1_0, .int .i64 a1_1] 33 (0, 0)) (kl BK157)) : gb157 ≠ gb158)); have n9_ := aM ((by rw [hg]; exact Nat.ne_of_gt (blk_lt (g := gb157) (o := .cells #[.int .i64 a1_0, .int .i64 a1_1] 33 (0, 0)) (kl BK157)) : gb158 ≠ gb157)); clear BK156 BK157 HB; have BK156 := n0_; have BK157 := n1_; have HB := n2_; have BK158 := n3_; have GW158 := n4_; have GE158 := n5_; have NB156_158 := n6_; have NB158_156 := n7_; have NB157_158 := n8_; have NB158_157 := n9_; clear n0_ n1_ n2_ n3_ n4_ n5_ n6_ n7_ n8_ n9_ hb hbox hg; have hnb10 := NB156_157.out; have hnc10 := NB157_156.out; have hnb11 := NB156_158.out; have hnc11 := NB158_156.out; have hcz12_0 : w9.cell? ⟨gb156, 0, none⟩ = some (.int .i64 a0_0) := (kC BK156.out 0).trans rfl; have hcz12_1 : w9.cell? ⟨gb156, 1, none⟩ = some (.int .i64 a0_1) := (kC BK156.out 1).trans rfl; have hfz12_0 := kF BK156.out 0; have hfz12_1 := kF BK156.out 1; have hnb13 := NB157_158.out; have hnc13 := NB158_157.out; have hcz14_0 : w9.cell? ⟨gb157, 0, none⟩ = some (.int .i64 a1_0) := (kC BK157.out 0).trans rfl; have hcz14_1 : w9.cell? ⟨gb157, 1, none⟩ = some (.int .i64 a1_1) := (kC BK157.out 1).trans rfl; have hfz14_0 := kF BK157.out 0; have hfz14_1 := kF BK157.out 1; have hcz15_0 : w9.cell? ⟨gb158, 0, none⟩ = some (.int .i64 a2_0) := (kC BK158.out 0).trans rfl; have hcz15_1 : w9.cell? ⟨gb158, 1, none⟩ = some (.int .i64 a2_1) := (kC BK158.out 1).trans rfl; have hfz15_0 := kF BK158.out 0; have hfz15_1 := kF BK158.out 1) | ((with_reducible refine gate_callee (f := 60) rfl ?_); refine goesL_ (some 10) rfl rfl Try.func60 (by kernel_rfl) rfl #[.agg #[.int .i64 a0_0, .int .i64 a0_1], .agg #[.int .i64 a1_0, .int .i64 a1_1], .agg #[.int .i64 a2_0, .int .i64 a2_1]] rfl (by (try simp only [List.map_toArray, List.map_cons, List.map_nil]); first | done | rfl | (simp only [List.length_drop, List.length_take]; rfl)) ?_; (with_reducible refine (seg_On.calls k a0_0 a0_1 a1_0 a1_1 a2_0 a2_1 true _ A4.out).mono ?_); rintro e w16 ⟨rfl, hb⟩; refine ⟨_, rfl, ?_⟩; have n0_ := aM (kB (g := gb156) (o := .cells #[.int .i64 a0_0, .int .i64 a0_1] 33 (0, 0)) (kl BK156) hb); have n1_ := aM (kB (g := gb157) (o := .cells #[.int .i64 a1_0, .int .i64 a1_1] 33 (0, 0)) (kl BK157) hb); have n2_ := aM (kB (g := gb158) (o := .cells #[.int .i64 a2_0, .int .i64 a2_1] 33 (0, 0)) (kl BK158) hb); have n3_ := aM (bS (bl) hb); clear BK156 BK157 BK158 HB; have BK156 := n0_; have BK157 := n1_; have BK158 := n2_; have HB := n3_; clear n0_ n1_ n2_ n3_; (try clear hb); (try clear hb2); (try clear hk); (try clear hi); have hcz17_0 : w16.cell? ⟨gb156, 0, none⟩ = some (.int .i64 a0_0) := (kC BK156.out 0).trans rfl; have hcz17_1 : w16.cell? ⟨gb156, 1, none⟩ = some (.int .i64 a0_1) := (kC BK156.out 1).trans rfl; have hfz17_0 := kF BK156.out 0; have hfz17_1 := kF BK156.out 1; have hcz18_0 : w16.cell? ⟨gb157, 0, none⟩ = some (.int .i64 a1_0) := (kC BK157.out 0).trans rfl; have hcz18_1 : w16.cell? ⟨gb157, 1, none⟩ = some (.int .i64 a1_1) := (kC BK157.out 1).trans rfl; have hfz18_0 := kF BK157.out 0; have hfz18_1 := kF BK157.out 1; have hcz19_0 : w16.cell? ⟨gb158, 0, none⟩ = some (.int .i64 a2_0) := (kC BK158.out 0).trans rfl; have hcz19_1 : w16.cell? ⟨gb158, 1, none⟩ = some (.int .i64 a2_1) := (kC BK158.out 1).trans rfl; have hfz19_0 := kF BK158.out 0; have hfz19_1 := kF BK158.out 1))
   go_ret
   exact ⟨by first | rfl | (simp [errW_none, errW_some] <;> rfl) | (simp [*, errW_none, errW_some] <;> rfl), bl⟩
  ·rw [if_neg c6] at H
   have c6b0 : (!(a0_0 == a1_0) || (!(a0_1 == a1_1))) = false := by simpa using c6
   clear c6
   obtain rfl := Option.some.inj H
   go_enter Try.func43, Try.ntmps43
   go_wp2_with (first | ((with_reducible refine gate_dst (N := 3) rfl ?_); refine box_event ?hg (N := 3) ?hd (cs := #[.int .i64 a0_0, .int .i64 a0_1]) (t := 33) ?hr ?_; (case hd => rfl); (case hg => rfl); (case hr => first | (go_simp; done) | (go_simp; rfl)); intro gb156 hg w20 hbox hb; have n0_ := aM (bS (bl) hb); have n1_ := aM (hbox); have n2_ := aM ((by rw [hg]; exact (below_size (bl)) : w.heap.size ≤ gb156)); have n3_ := aM ((by rw [hg]; exact (below_size (bl)) : w.heap.size ≤ gb156)); clear HB; have HB := n0_; have BK156 := n1_; have GW156 := n2_; have GE156 := n3_; clear n0_ n1_ n2_ n3_ hb hbox hg) | ((with_reducible refine gate_dst (N := 4) rfl ?_); refine box_event ?hg (N := 4) ?hd (cs := #[.int .i64 a1_0, .int .i64 a1_1]) (t := 33) ?hr ?_; (case hd => rfl); (case hg => rfl); (case hr => first | (go_simp; done) | (go_simp; rfl)); intro gb157 hg w21 hbox hb; have n0_ := aM (kB (g := gb156) (o := .cells #[.int .i64 a0_0, .int .i64 a0_1] 33 (0, 0)) (kl BK156) hb); have n1_ := aM (bS (bl) hb); have n2_ := aM (hbox); have n3_ := aM ((by rw [hg]; exact (below_size (bl)) : w.heap.size ≤ gb157)); have n4_ := aM ((by rw [hg]; exact (below_size (bl)) : w.heap.size ≤ gb157)); have n5_ := aM ((by rw [hg]; exact Nat.ne_of_lt (blk_lt (g := gb156) (o := .cells #[.int .i64 a0_0, .int .i64 a0_1] 33 (0, 0)) (kl BK156)) : gb156 ≠ gb157)); have n6_ := aM ((by rw [hg]; exact Nat.ne_of_gt (blk_lt (g := gb156) (o := .cells #[.int .i64 a0_0, .int .i64 a0_1] 33 (0, 0)) (kl BK156)) : gb157 ≠ gb156)); clear BK156 HB; have BK156 := n0_; have HB := n1_; have BK157 := n2_; have GW157 := n3_; have GE157 := n4_; have NB156_157 := n5_; have NB157_156 := n6_; clear n0_ n1_ n2_ n3_ n4_ n5_ n6_ hb hbox hg) | ((with_reducible refine gate_dst (N := 5) rfl ?_); refine box_event ?hg (N := 5) ?hd (cs := #[.int .i64 a2_0, .int .i64 a2_1]) (t := 33) ?hr ?_; (case hd => rfl); (case hg => rfl); (case hr => first | (go_simp; done) | (go_simp; rfl)); intro gb158 hg w22 hbox hb; have n0_ := aM (kB (g := gb156) (o := .cells #[.int .i64 a0_0, .int .i64 a0_1] 33 (0, 0)) (kl BK156) hb); have n1_ := aM (kB (g := gb157) (o := .cells #[.int .i64 a1_0, .int .i64 a1_1] 33 (0, 0)) (kl BK157) hb); have n2_ := aM (bS (bl) hb); have n3_ := aM (hbox); have n4_ := aM ((by rw [hg]; exact (below_size (bl)) : w.heap.size ≤ gb158)); have n5_ := aM ((by rw [hg]; exact (below_size (bl)) : w.heap.size ≤ gb158)); have n6_ := aM ((by rw [hg]; exact Nat.ne_of_lt (blk_lt (g := gb156) (o := .cells #[.int .i64 a0_0, .int .i64 a0_1] 33 (0, 0)) (kl BK156)) : gb156 ≠ gb158)); have n7_ := aM ((by rw [hg]; exact Nat.ne_of_gt (blk_lt (g := gb156) (o := .cells #[.int .i64 a0_0, .int .i64 a0_1] 33 (0, 0)) (kl BK156)) : gb158 ≠ gb156)); have n8_ := aM ((by rw [hg]; exact Nat.ne_of_lt (blk_lt (g := gb157) (o := .cells #[.int .i64 a1_0, .int .i64 a1_1] 33 (0, 0)) (kl BK157)) : gb157 ≠ gb158)); have n9_ := aM ((by rw [hg]; exact Nat.ne_of_gt (blk_lt (g := gb157) (o := .cells #[.int .i64 a1_0, .int .i64 a1_1] 33 (0, 0)) (kl BK157)) : gb158 ≠ gb157)); clear BK156 BK157 HB; have BK156 := n0_; have BK157 := n1_; have HB := n2_; have BK158 := n3_; have GW158 := n4_; have GE158 := n5_; have NB156_158 := n6_; have NB158_156 := n7_; have NB157_158 := n8_; have NB158_157 := n9_; clear n0_ n1_ n2_ n3_ n4_ n5_ n6_ n7_ n8_ n9_ hb hbox hg; have hnb23 := NB156_157.out; have hnc23 := NB157_156.out; have hnb24 := NB156_158.out; have hnc24 := NB158_156.out; have hcz25_0 : w22.cell? ⟨gb156, 0, none⟩ = some (.int .i64 a0_0) := (kC BK156.out 0).trans rfl; have hcz25_1 : w22.cell? ⟨gb156, 1, none⟩ = some (.int .i64 a0_1) := (kC BK156.out 1).trans rfl; have hfz25_0 := kF BK156.out 0; have hfz25_1 := kF BK156.out 1; have hnb26 := NB157_158.out; have hnc26 := NB158_157.out; have hcz27_0 : w22.cell? ⟨gb157, 0, none⟩ = some (.int .i64 a1_0) := (kC BK157.out 0).trans rfl; have hcz27_1 : w22.cell? ⟨gb157, 1, none⟩ = some (.int .i64 a1_1) := (kC BK157.out 1).trans rfl; have hfz27_0 := kF BK157.out 0; have hfz27_1 := kF BK157.out 1; have hcz28_0 : w22.cell? ⟨gb158, 0, none⟩ = some (.int .i64 a2_0) := (kC BK158.out 0).trans rfl; have hcz28_1 : w22.cell? ⟨gb158, 1, none⟩ = some (.int .i64 a2_1) := (kC BK158.out 1).trans rfl; have hfz28_0 := kF BK158.out 0; have hfz28_1 := kF BK158.out 1) | ((with_reducible refine gate_callee (f := 60) rfl ?_); refine goesL_ (some 10) rfl rfl Try.func60 (by kernel_rfl) rfl #[.agg #[.int .i64 a0_0, .int .i64 a0_1], .agg #[.int .i64 a1_0, .int .i64 a1_1], .agg #[.int .i64 a2_0, .int .i64 a2_1]] rfl (by (try simp only [List.map_toArray, List.map_cons, List.map_nil]); first | done | rfl | (simp only [List.length_drop, List.length_take]; rfl)) ?_; (with_reducible refine (seg_On.calls k a0_0 a0_1 a1_0 a1_1 a2_0 a2_1 true _ A4.out).mono ?_); rintro e w29 ⟨rfl, hb⟩; refine ⟨_, rfl, ?_⟩; have n0_ := aM (kB (g := gb156) (o := .cells #[.int .i64 a0_0, .int .i64 a0_1] 33 (0, 0)) (kl BK156) hb); have n1_ := aM (kB (g := gb157) (o := .cells #[.int .i64 a1_0, .int .i64 a1_1] 33 (0, 0)) (kl BK157) hb); have n2_ := aM (kB (g := gb158) (o := .cells #[.int .i64 a2_0, .int .i64 a2_1] 33 (0, 0)) (kl BK158) hb); have n3_ := aM (bS (bl) hb); clear BK156 BK157 BK158 HB; have BK156 := n0_; have BK157 := n1_; have BK158 := n2_; have HB := n3_; clear n0_ n1_ n2_ n3_; (try clear hb); (try clear hb2); (try clear hk); (try clear hi); have hcz30_0 : w29.cell? ⟨gb156, 0, none⟩ = some (.int .i64 a0_0) := (kC BK156.out 0).trans rfl; have hcz30_1 : w29.cell? ⟨gb156, 1, none⟩ = some (.int .i64 a0_1) := (kC BK156.out 1).trans rfl; have hfz30_0 := kF BK156.out 0; have hfz30_1 := kF BK156.out 1; have hcz31_0 : w29.cell? ⟨gb157, 0, none⟩ = some (.int .i64 a1_0) := (kC BK157.out 0).trans rfl; have hcz31_1 : w29.cell? ⟨gb157, 1, none⟩ = some (.int .i64 a1_1) := (kC BK157.out 1).trans rfl; have hfz31_0 := kF BK157.out 0; have hfz31_1 := kF BK157.out 1))
   go_ret
   exact ⟨by first | rfl | (simp [errW_none, errW_some] <;> rfl) | (simp [*, errW_none, errW_some] <;> rfl), bl⟩
 ·replace c5 := Bool.eq_false_iff.mpr c5
  subst c5
  have H1 : (some false) = some r := by rw [if_neg (show ¬ (false = true) by decide)] at H; exact H
  clear H
  have H := H1
  clear H1
  obtain rfl := Option.some.inj H
  go_enter Try.func43, Try.ntmps43
  go_wp2_with (first | ((with_reducible refine gate_dst (N := 3) rfl ?_); refine box_event ?hg (N := 3) ?hd (cs := #[.int .i64 a0_0, .int .i64 a0_1]) (t := 33) ?hr ?_; (case hd => rfl); (case hg => rfl); (case hr => first | (go_simp; done) | (go_simp; rfl)); intro gb156 hg w32 hbox hb; have n0_ := aM (bS (bl) hb); have n1_ := aM (hbox); have n2_ := aM ((by rw [hg]; exact (below_size (bl)) : w.heap.size ≤ gb156)); have n3_ := aM ((by rw [hg]; exact (below_size (bl)) : w.heap.size ≤ gb156)); clear HB; have HB := n0_; have BK156 := n1_; have GW156 := n2_; have GE156 := n3_; clear n0_ n1_ n2_ n3_ hb hbox hg) | ((with_reducible refine gate_dst (N := 4) rfl ?_); refine box_event ?hg (N := 4) ?hd (cs := #[.int .i64 a1_0, .int .i64 a1_1]) (t := 33) ?hr ?_; (case hd => rfl); (case hg => rfl); (case hr => first | (go_simp; done) | (go_simp; rfl)); intro gb157 hg w33 hbox hb; have n0_ := aM (kB (g := gb156) (o := .cells #[.int .i64 a0_0, .int .i64 a0_1] 33 (0, 0)) (kl BK156) hb); have n1_ := aM (bS (bl) hb); have n2_ := aM (hbox); have n3_ := aM ((by rw [hg]; exact (below_size (bl)) : w.heap.size ≤ gb157)); have n4_ := aM ((by rw [hg]; exact (below_size (bl)) : w.heap.size ≤ gb157)); have n5_ := aM ((by rw [hg]; exact Nat.ne_of_lt (blk_lt (g := gb156) (o := .cells #[.int .i64 a0_0, .int .i64 a0_1] 33 (0, 0)) (kl BK156)) : gb156 ≠ gb157)); have n6_ := aM ((by rw [hg]; exact Nat.ne_of_gt (blk_lt (g := gb156) (o := .cells #[.int .i64 a0_0, .int .i64 a0_1] 33 (0, 0)) (kl BK156)) : gb157 ≠ gb156)); clear BK156 HB; have BK156 := n0_; have HB := n1_; have BK157 := n2_; have GW157 := n3_; have GE157 := n4_; have NB156_157 := n5_; have NB157_156 := n6_; clear n0_ n1_ n2_ n3_ n4_ n5_ n6_ hb hbox hg) | ((with_reducible refine gate_dst (N := 5) rfl ?_); refine box_event ?hg (N := 5) ?hd (cs := #[.int .i64 a2_0, .int .i64 a2_1]) (t := 33) ?hr ?_; (case hd => rfl); (case hg => rfl); (case hr => first | (go_simp; done) | (go_simp; rfl)); intro gb158 hg w34 hbox hb; have n0_ := aM (kB (g := gb156) (o := .cells #[.int .i64 a0_0, .int .i64 a0_1] 33 (0, 0)) (kl BK156) hb); have n1_ := aM (kB (g := gb157) (o := .cells #[.int .i64 a1_0, .int .i64 a1_1] 33 (0, 0)) (kl BK157) hb); have n2_ := aM (bS (bl) hb); have n3_ := aM (hbox); have n4_ := aM ((by rw [hg]; exact (below_size (bl)) : w.heap.size ≤ gb158)); have n5_ := aM ((by rw [hg]; exact (below_size (bl)) : w.heap.size ≤ gb158)); have n6_ := aM ((by rw [hg]; exact Nat.ne_of_lt (blk_lt (g := gb156) (o := .cells #[.int .i64 a0_0, .int .i64 a0_1] 33 (0, 0)) (kl BK156)) : gb156 ≠ gb158)); have n7_ := aM ((by rw [hg]; exact Nat.ne_of_gt (blk_lt (g := gb156) (o := .cells #[.int .i64 a0_0, .int .i64 a0_1] 33 (0, 0)) (kl BK156)) : gb158 ≠ gb156)); have n8_ := aM ((by rw [hg]; exact Nat.ne_of_lt (blk_lt (g := gb157) (o := .cells #[.int .i64 a1_0, .int .i64 a1_1] 33 (0, 0)) (kl BK157)) : gb157 ≠ gb158)); have n9_ := aM ((by rw [hg]; exact Nat.ne_of_gt (blk_lt (g := gb157) (o := .cells #[.int .i64 a1_0, .int .i64 a1_1] 33 (0, 0)) (kl BK157)) : gb158 ≠ gb157)); clear BK156 BK157 HB; have BK156 := n0_; have BK157 := n1_; have HB := n2_; have BK158 := n3_; have GW158 := n4_; have GE158 := n5_; have NB156_158 := n6_; have NB158_156 := n7_; have NB157_158 := n8_; have NB158_157 := n9_; clear n0_ n1_ n2_ n3_ n4_ n5_ n6_ n7_ n8_ n9_ hb hbox hg; have hnb35 := NB156_157.out; have hnc35 := NB157_156.out; have hnb36 := NB156_158.out; have hnc36 := NB158_156.out; have hcz37_0 : w34.cell? ⟨gb156, 0, none⟩ = some (.int .i64 a0_0) := (kC BK156.out 0).trans rfl; have hcz37_1 : w34.cell? ⟨gb156, 1, none⟩ = some (.int .i64 a0_1) := (kC BK156.out 1).trans rfl; have hfz37_0 := kF BK156.out 0; have hfz37_1 := kF BK156.out 1; have hnb38 := NB157_158.out; have hnc38 := NB158_157.out; have hcz39_0 : w34.cell? ⟨gb157, 0, none⟩ = some (.int .i64 a1_0) := (kC BK157.out 0).trans rfl; have hcz39_1 : w34.cell? ⟨gb157, 1, none⟩ = some (.int .i64 a1_1) := (kC BK157.out 1).trans rfl; have hfz39_0 := kF BK157.out 0; have hfz39_1 := kF BK157.out 1; have hcz40_0 : w34.cell? ⟨gb158, 0, none⟩ = some (.int .i64 a2_0) := (kC BK158.out 0).trans rfl; have hcz40_1 : w34.cell? ⟨gb158, 1, none⟩ = some (.int .i64 a2_1) := (kC BK158.out 1).trans rfl; have hfz40_0 := kF BK158.out 0; have hfz40_1 := kF BK158.out 1) | ((with_reducible refine gate_callee (f := 60) rfl ?_); refine goesL_ (some 10) rfl rfl Try.func60 (by kernel_rfl) rfl #[.agg #[.int .i64 a0_0, .int .i64 a0_1], .agg #[.int .i64 a1_0, .int .i64 a1_1], .agg #[.int .i64 a2_0, .int .i64 a2_1]] rfl (by (try simp only [List.map_toArray, List.map_cons, List.map_nil]); first | done | rfl | (simp only [List.length_drop, List.length_take]; rfl)) ?_; (with_reducible refine (seg_On.calls k a0_0 a0_1 a1_0 a1_1 a2_0 a2_1 false _ A4.out).mono ?_); rintro e w41 ⟨rfl, hb⟩; refine ⟨_, rfl, ?_⟩; have n0_ := aM (kB (g := gb156) (o := .cells #[.int .i64 a0_0, .int .i64 a0_1] 33 (0, 0)) (kl BK156) hb); have n1_ := aM (kB (g := gb157) (o := .cells #[.int .i64 a1_0, .int .i64 a1_1] 33 (0, 0)) (kl BK157) hb); have n2_ := aM (kB (g := gb158) (o := .cells #[.int .i64 a2_0, .int .i64 a2_1] 33 (0, 0)) (kl BK158) hb); have n3_ := aM (bS (bl) hb); clear BK156 BK157 BK158 HB; have BK156 := n0_; have BK157 := n1_; have BK158 := n2_; have HB := n3_; clear n0_ n1_ n2_ n3_; (try clear hb); (try clear hb2); (try clear hk); (try clear hi)))
  go_ret
  exact ⟨by first | rfl | (simp [errW_none, errW_some] <;> rfl) | (simp [*, errW_none, errW_some] <;> rfl), bl⟩
instance inhS33 : Inhabited S33 := ⟨z33⟩
def enc33 (x : S33) : List Value := [.int .i64 x.f0, .int .i64 x.f1]
def cmpBy40 (x y : S33) : Int := if x.f0 = y.f0 then if x.f1 = y.f1 then 0 else (if x.f1 < y.f1 then -1 else 1) else (if x.f0 < y.f0 then -1 else 1)
theorem ltBy40 (x y : S33) : ltOf cmpBy40 x y = true ↔ (x.f0 < y.f0 ∨ x.f0 = y.f0 ∧ (x.f1 < y.f1)) := by
 unfold ltOf cmpBy40
 rw [decide_eq_true_iff]
 (repeat' split) <;> omega
theorem swoBy40 : Go.Sort.SWO (ltOf cmpBy40) where
 irrefl x := by rw [Bool.eq_false_iff]; intro h; rw [ltBy40] at h; omega
 trans x y z h1 h2 := by rw [ltBy40] at *; omega
 ntrans x y z h1 h2 := by
  rw [Bool.eq_false_iff] at *
  intro h3
  rw [Ne, ltBy40] at h1 h2
  rw [ltBy40] at h3
  omega
attribute [local go_sem high] eqG33
set_option maxHeartbeats 4000000 in
set_option maxRecDepth 100000 in
theorem closureBy40 (x y : S33) (W : World) : Calls Try.prog 40 (#[.agg (enc33 x).toArray, .agg (enc33 y).toArray] ++ #[]) W fun e w' => e = .returned (.int .i64 (cmpBy40 x y)) ∧ ∃ q os', w' = Go.Sort.grow (W.drewN q) os' := by
 obtain ⟨a, b⟩ := x
 obtain ⟨a', b'⟩ := y
 show Calls Try.prog 40 #[.agg #[.int .i64 a, .int .i64 b], .agg #[.int .i64 a', .int .i64 b']] W _
 unfold cmpBy40
 dsimp only
 by_cases ha : a = a'
 case neg =>
  have ea : (a == a') = false := beq_eq_false_iff_ne.mpr ha
  rw [if_neg ha]
  by_cases hl : a < a'
  ·rw [if_pos hl]
   have hd : decide (a < a') = true := decide_eq_true hl
   go_enter Try.func40, Try.ntmps40
   go_wp2
   go_ret
   exact ⟨rfl, 0, _, by simp only [Go.Sort.alloc_eq_grow, Go.Sort.grow_grow]; rfl⟩
  ·rw [if_neg hl]
   have hd : decide (a < a') = false := decide_eq_false hl
   go_enter Try.func40, Try.ntmps40
   go_wp2
   go_ret
   exact ⟨rfl, 0, _, by simp only [Go.Sort.alloc_eq_grow, Go.Sort.grow_grow]; rfl⟩
 subst ha
 rw [if_pos rfl]
 by_cases hb : b = b'
 case neg =>
  have eb : (b == b') = false := beq_eq_false_iff_ne.mpr hb
  rw [if_neg hb]
  by_cases hl : b < b'
  ·rw [if_pos hl]
   have hd : decide (b < b') = true := decide_eq_true hl
   go_enter Try.func40, Try.ntmps40
   go_wp2
   go_ret
   exact ⟨rfl, 0, _, by simp only [Go.Sort.alloc_eq_grow, Go.Sort.grow_grow]; rfl⟩
  ·rw [if_neg hl]
   have hd : decide (b < b') = false := decide_eq_false hl
   go_enter Try.func40, Try.ntmps40
   go_wp2
   go_ret
   exact ⟨rfl, 0, _, by simp only [Go.Sort.alloc_eq_grow, Go.Sort.grow_grow]; rfl⟩
 subst hb
 rw [if_pos rfl]
 go_enter Try.func40, Try.ntmps40
 go_wp2
 go_ret
 exact ⟨rfl, 0, _, by simp only [Go.Sort.alloc_eq_grow, Go.Sort.grow_grow]; rfl⟩
def api_Point_by_noding_Split_1.f (l0 : List (S33)) : Option (List (S33)) := if l0.length < 4611686018427387904 then some (Go.Sort.pdq (ltOf cmpBy40) l0.toArray 0 l0.length (Lib.bitLen l0.length) true true).toList else none
theorem api_Point_by_noding_Split_1.spec (l0 r : List (S33)) (h : api_Point_by_noding_Split_1.f l0 = some r) : r.Perm l0 ∧ ∀ i j, i < j → j < r.length → ltOf cmpBy40 (r.getD j z33) (r.getD i z33) = false := by
 unfold api_Point_by_noding_Split_1.f at h
 split at h
 case isFalse => cases h
 obtain rfl := Option.some.inj h
 obtain ⟨⟨hs, _, hp⟩, ho⟩ := Go.Sort.pdq_sorts (ltOf cmpBy40) swoBy40 l0.toArray 0 l0.length (Lib.bitLen l0.length) true true (Nat.zero_le _) (by simp) (Or.inl rfl)
 generalize Go.Sort.pdq (ltOf cmpBy40) l0.toArray 0 l0.length (Lib.bitLen l0.length) true true = d at hs hp ho ⊢
 have hsl : d.size = l0.length := by simpa using hs
 refine ⟨?_, fun i j hij hj => ?_⟩
 ·have e1 : d.extract 0 l0.length = d := by rw [← hsl]; exact Array.extract_size
  have e2 : l0.toArray.extract 0 l0.length = l0.toArray := by
   have : l0.length = l0.toArray.size := by simp
   rw [this]; exact Array.extract_size
  rw [e1, e2] at hp
  exact hp
 ·have hj' : j < d.size := by simpa using hj
  have h1 := ho i j (Nat.zero_le _) hij (by omega)
  rw [getElem!_pos d j hj', getElem!_pos d i (by omega)] at h1
  rw [List.getD_eq_getElem?_getD, List.getD_eq_getElem?_getD, List.getElem?_eq_getElem hj, List.getElem?_eq_getElem (show i < d.toList.length by omega)]
  simpa using h1
set_option maxHeartbeats 4000000 in
set_option maxRecDepth 100000 in
theorem api_Point_by_noding_Split_1.calls (P0_ : Nat → Prop) (u9000_ : Value) (l0 : List (S33)) (r : List (S33)) (w0 w : World) (hB : Below w0.heap.size w0 w) (ho0 : Kd.R k33 33 w w0.heap.size P0_ u9000_ l0) (h : api_Point_by_noding_Split_1.f l0 = some r) :
  Calls Try.prog 39 #[u9000_, .func (.func 40) #[] #[]] w fun e w' => e = .returned (.tuple #[]) ∧ Kd.R k33 33 w' w0.heap.size (fun k_ => (P0_ k_ ∨ w.heap.size ≤ k_)) u9000_ r ∧ Below w0.heap.size w0 w' ∧ Kept w w' (fun k_ => P0_ k_) := by
 have hperm := (api_Point_by_noding_Split_1.spec l0 r h).1
 unfold api_Point_by_noding_Split_1.f at h
 split at h
 case isFalse => cases h
 rename_i hsz
 obtain ⟨A, c, rfl⟩ := Kd.R_slice ho0
 rcases Nat.eq_zero_or_pos l0.length with h0 | h0
 ·obtain rfl : l0 = [] := List.eq_nil_of_length_eq_zero h0
  obtain rfl : r = [] := List.Perm.eq_nil hperm
  refine (AnyF.slices_SortFunc_none { Try.laid39 with } A c (.func (.func 40) #[] #[]) w).mono ?_
  rintro e w' ⟨rfl, rfl⟩
  exact ⟨rfl, rM ho0 (fun _ hk => .inl hk), hB, Nat.le_refl _, fun _ _ _ => rfl⟩
 ·obtain ⟨g, rfl⟩ := R_head ho0 h0
  obtain rfl := Option.some.inj h
  obtain ⟨hH, hblk⟩ := holds_of_R enc33 (fun _ => rfl) (by decide) (fun h => k33_open h) ho0
  have eg : ∀ args w, (callFunc 40 args).run Try.prog w = .ok (.enter 40 args) w := enters_of Try.func40 (by kernel_rfl) rfl
  have hcon := AnyQ.slices_SortFunc_eq Try.laid39 2 Try.isAgg33 Try.sizeOf33 enc33 (fun _ => rfl) (fun x v hv => by simp [enc33] at hv; rcases hv with rfl | rfl <;> rfl) cmpBy40 swoBy40 40 #[] g 0 c l0.toArray w eg (fun m os dk hs x y => closureBy40 x y _) hH hblk (by simpa using hsz)
  have e1 : l0.toArray.size = l0.length := by simp
  rw [e1] at hcon
  refine hcon.mono ?_
  rintro e w' ⟨rfl, n, os, rfl⟩
  have hd : (Go.Sort.pdq (ltOf cmpBy40) l0.toArray 0 l0.length (Lib.bitLen l0.length) true true).size = l0.length := by
   have := hperm.length_eq
   simpa using this
  have hR := R_sortWorldK enc33 (fun _ => rfl) (by decide) (fun w base ok x => k33_mkM w base ok x) ho0 n (Go.Sort.pdq (ltOf cmpBy40) l0.toArray 0 l0.length (Lib.bitLen l0.length) true true) os hd
  have hg := grown_sortWorldK enc33 k33.sz w g n (Go.Sort.pdq (ltOf cmpBy40) l0.toArray 0 l0.length (Lib.bitLen l0.length) true true) os
  have hP : P0_ g := ho0.1 g rfl
  obtain ⟨inner, hown⟩ := Kd.R_own ho0
  refine ⟨rfl, rM hR (fun _ hk => .inl hk), hB.grown hg hB.size (fun k hk => own_base hown k hk), hg.size, fun i hi hne => hg.block i hi (fun he => hne ?_)⟩
  injection he with he
  rw [he]; exact hP
def noding_Split.ends : List S35 → List S33
 | [] => []
 | s :: ss => s.f0 :: s.f1 :: noding_Split.ends ss
theorem noding_Split.ends_append : ∀ (a b : List S35), noding_Split.ends (a ++ b) = noding_Split.ends a ++ noding_Split.ends b
 | [], _ => rfl
 | s :: a, b => by
  show s.f0 :: s.f1 :: noding_Split.ends (a ++ b) = s.f0 :: s.f1 :: (noding_Split.ends a ++ noding_Split.ends b)
  rw [noding_Split.ends_append a b]
theorem noding_Split.ends_length : ∀ a : List S35, (noding_Split.ends a).length = 2 * a.length
 | [] => rfl
 | s :: a => by
  show (noding_Split.ends a).length + 1 + 1 = 2 * (a.length + 1)
  rw [noding_Split.ends_length a]; omega
def noding_Split.cut (k : Nat) (s : S35) : S33 → List S33 → List S35 → Option (S33 × List S35)
 | p, [], out => some (p, out)
 | p, q :: qs, out => (seg_Within.f k q.f0 q.f1 s.f0.f0 s.f0.f1 s.f1.f0 s.f1.f1).bind fun b => if b = true then (if out.length < 1000000000 then noding_Split.cut k s q qs (out ++ [⟨p, q⟩]) else none) else noding_Split.cut k s p qs out
def noding_Split.all (k : Nat) (es : List S33) : List S35 → List S35 → Option (List S35)
 | [], out => some out
 | s :: ss, out => (noding_Split.cut k s s.f0 es out).bind fun r => if r.2.length < 1000000000 then noding_Split.all k es ss (r.2 ++ [⟨r.1, s.f1⟩]) else none
def noding_Split.f (k : Nat) (l0 : List (S35)) : Option (List (S35)) := (noding_Unique.f k l0).bind fun u => if u.length < 100000000 then ((api_Point_by_noding_Split_1.f (noding_Split.ends u)).bind fun e => (api_Point_42.f e).bind fun es => (noding_canon.f k l0).bind fun c => (noding_Split.all k es c []).bind fun out => noding_Sort.f k out) else none
theorem noding_Split.cutmono (k : Nat) (s : S35) : ∀ (qs : List S33) (p : S33) (out : List S35), LeO (noding_Split.cut k s p qs out) (noding_Split.cut (k + 1) s p qs out)
 | [], p, out => LeO.refl _
 | q :: qs, p, out => by
  unfold noding_Split.cut
  exact LeO.bind (seg_Within.mono _ _ _ _ _ _ _) (fun b => LeO.ite (LeO.ite (noding_Split.cutmono k s qs _ _) (LeO.refl _)) (noding_Split.cutmono k s qs _ _))
theorem noding_Split.allmono (k : Nat) (es : List S33) : ∀ (ss out : List S35), LeO (noding_Split.all k es ss out) (noding_Split.all (k + 1) es ss out)
 | [], out => LeO.refl _
 | s :: ss, out => by
  unfold noding_Split.all
  exact LeO.bind (noding_Split.cutmono k s es _ _) (fun r => LeO.ite (noding_Split.allmono k es ss _) (LeO.refl _))
theorem noding_Split.mono : ∀ (l0 : List (S35)) (k : Nat), LeO (noding_Split.f k l0) (noding_Split.f (k + 1) l0) := by
 intro l0 k
 unfold noding_Split.f
 exact LeO.bind (noding_Unique.mono _ _) (fun u => LeO.ite (LeO.bind (LeO.refl _) (fun e => LeO.bind (LeO.refl _) (fun es => LeO.bind (noding_canon.mono _ _) (fun c => LeO.bind (noding_Split.allmono k es _ _) (fun out => noding_Sort.mono _ _))))) (LeO.refl _))
theorem set2_grown (W : World) (b : Nat) (x y : Value) : W.grownBy ((W.setCell ⟨b, 0, none⟩ x).setCell ⟨b, 1, none⟩ y) (some b) :=
 ⟨rfl, rfl, rfl, by simp [World.setCell], fun i _ hne => (Below.heap_setCell _ _ _ _ (fun e => hne (by rw [e]))).trans (Below.heap_setCell _ _ _ _ (fun e => hne (by rw [e])))⟩
set_option maxHeartbeats 16000000 in
set_option maxRecDepth 100000 in
theorem noding_Split.calls (k : Nat) (A0 : Option Addr) (c0 : Nat) (l0 : List (S35)) (r : List (S35)) (w : World) (hr0 : Kd.C k35 w A0 l0.length l0) (hc0 : l0.length ≤ c0) (h : noding_Split.f k l0 = some r) :
  Calls Try.prog 19 #[.slice A0 l0.length c0] w fun e w' => ∃ v0_ : Value, e = .returned (v0_) ∧ Kd.R k35 35 w' w.heap.size (fun _ => True) v0_ r ∧ Below w.heap.size w w' := by
 obtain ⟨u, hu, h⟩ := Option.bind_eq_some_iff.mp (show (noding_Unique.f k l0).bind _ = some r from h)
 split at h
 case isFalse => cases h
 rename_i hul
 obtain ⟨e, he, h⟩ := Option.bind_eq_some_iff.mp h
 obtain ⟨es, hes, h⟩ := Option.bind_eq_some_iff.mp h
 obtain ⟨c, hc, h⟩ := Option.bind_eq_some_iff.mp h
 obtain ⟨out, hout, h⟩ := Option.bind_eq_some_iff.mp h
 have HR := aM hr0
 have Hu := aM hu
 have He := aM he
 have Hes := aM hes
 have Hc := aM hc
 have Hout := aM hout
 have HF := aM h
 clear hr0 hu he hes hc hout h
 go_enter Try.func19, Try.ntmps19
 go_wp2_with (first | (go_at_call 15; refine (noding_Unique.calls k A0 c0 l0 u _ HR.out hc0 Hu.out).mono ?_; rintro e w1 ⟨v3, rfl, ho1, hb1⟩; obtain ⟨A3, c3, rfl⟩ := Kd.R_slice ho1) | go_in)
 have HB1 := aM hb1
 have HC1 := aM (rR ho1).2.2
 have hbig : u.length ≤ 9223372036854775807 := (rR ho1).2.2.2.1
 clear hb1 ho1
 go_loopg [15, 3] u.length (fun gg v15 v3 wr => ∃ i : Nat, i ≤ u.length ∧ u.length - i ≤ gg ∧ v15 = .int .i64 i ∧ Aside0 (Kd.R k33 33 wr w1.heap.size (fun _ => True) v3 (noding_Split.ends (u.take i))) ∧ Aside0 (Below w1.heap.size w1 wr))
 case atStart => exact ⟨0, by omega, by omega, rfl, ⟨by rw [List.take_zero]; exact Kd.R_nil _ _ _ _ _⟩, ⟨Below.refl _ _⟩⟩
 case round =>
  obtain ⟨i, hi, hg, rfl, HO, HB⟩ := hrel
  by_cases hlt : i < u.length
  ·have hltI : (i : Int) < (u.length : Int) := by omega
   obtain ⟨ad, e0, hx0, hx1, hx2, hx3⟩ := at_T35 (Kd.C_below HC1.out HB.out) (i : Int) (by omega) (by omega)
   cases e0
   have hy : rd_T35 u (i : Int) = u[i] := by unfold rd_T35; rw [Int.toNat_natCast, List.getD_eq_getElem?_getD, List.getElem?_eq_getElem hlt]; rfl
   have hstep : noding_Split.ends (u.take (i + 1)) = noding_Split.ends (u.take i) ++ [u[i].f0, u[i].f1] := by rw [List.take_succ_eq_append_getElem hlt, noding_Split.ends_append]; rfl
   have hln : (noding_Split.ends (u.take i)).length ≤ 200000000 := by rw [noding_Split.ends_length, List.length_take]; omega
   have HST := aM hstep
   rw [hy, Int.toNat_natCast] at hx0 hx1 hx2 hx3
   clear hstep hy
   generalize u[i] = s at hx0 hx1 hx2 hx3 HST
   have HO2 := aM (rA HO.out (.cells #[.int .i64 s.f0.f0, .int .i64 s.f0.f1, .int .i64 s.f1.f0, .int .i64 s.f1.f1] 35))
   have HB2 := aM (HB.out.alloc HB.out.size (.cells #[.int .i64 s.f0.f0, .int .i64 s.f0.f1, .int .i64 s.f1.f0, .int .i64 s.f1.f1] 35))
   obtain ⟨wb, hwb⟩ : ∃ wb, wb = wr.alloc (.cells #[.int .i64 s.f0.f0, .int .i64 s.f0.f1, .int .i64 s.f1.f0, .int .i64 s.f1.f1] 35) := ⟨_, rfl⟩
   rw [← hwb] at HO2 HB2
   have hrow : Kd.C k33 (wb.alloc (.cells #[.int .i64 s.f0.f0, .int .i64 s.f0.f1, .int .i64 s.f1.f0, .int .i64 s.f1.f1] 33)) (some ⟨wb.heap.size, 0, none⟩) 2 [s.f0, s.f1] :=
    (rR (R_of_alloc k33 (W := wb) 0 33 (xs := [s.f0, s.f1]) (inner := [.int .i64 s.f0.f0, .int .i64 s.f0.f1, .int .i64 s.f1.f0, .int .i64 s.f1.f1]) (ok := fun _ => True) (okp := fun _ => True) (Reps.c2 (k33_mkM _ _ _ s.f0) (Reps.c2 (k33_mkM _ _ _ s.f1) (Reps.none _ _))) (fun _ _ => trivial) trivial (by omega) (by simp))).2.2
   have hsz : wb.heap.size = wr.heap.size + 1 := by rw [hwb]; simp
   rw [hsz] at hrow
   have HROW := aM hrow
   clear hrow
   go_wp2_with (first
    | ((with_reducible refine gate_builtin (b := .append) (xs := #[.tmp 19, .tmp 24]) rfl ?_); at_builtin; rw [← hwb]; refine Kd.R_append_rows k33 (w0 := w1) w1.heap.size rfl (.tmp 19) (.tmp 24) 22 33 (.agg #[(.int .i64 0), (.int .i64 0)]) 16 rfl Try.underlying22 info33 rfl (by decide) (by omega) u3 (noding_Split.ends (u.take i)) [s.f0, s.f1] _ _ _ (fun _ => True) (fun _ => False) rfl rfl (rA HO2.out _) HROW.out (fun _ _ h => h) (fun _ h => h.elim) (fun _ _ => trivial) (HB2.out.alloc HB2.out.size _) (HB2.out.alloc HB2.out.size _).size (by omega) ?_; intro v6 w6 ho6 hb6 hg6 hat6; rw [← HST.out] at ho6; have HO6 := aM ho6; have HB6 := aM hb6; clear ho6 hb6 hg6 hat6)
    | go_in)
   go_roundg (u.length - (i + 1))
   case measure => omega
   case rel => exact ⟨i + 1, by omega, by omega, by go_num, HO6, HB6⟩
  ·have hil : i = u.length := by omega
   subst hil
   rw [List.take_length] at HO
   have HSRT := aM (api_Point_by_noding_Split_1.calls (fun _ => True) u3 (noding_Split.ends u) e w1 wr HB.out HO.out He.out)
   go_wp2_with (first
    | (go_at_call 39; refine HSRT.out.mono ?_; rintro e' w2 ⟨rfl, ho2, hb2, _⟩; have HO2 := aM (rM (ok' := fun _ => True) ho2 (fun _ _ => trivial)); have HB2 := aM hb2; clear ho2 hb2)
    | (go_at_call 42; refine (api_Point_42.calls (fun _ => True) u3 e es w1 _ HB2.out HO2.out Hes.out).mono ?_; rintro e' w3 ⟨v5, rfl, ho3, hb3, _⟩; obtain ⟨A5, c5, rfl⟩ := Kd.R_slice ho3; have HC3 := aM (rR ho3).2.2; have HB3 := aM (HB1.out.trans (hb3.mono HB1.out.size)); clear ho3 hb3)
    | (go_at_call 29; refine (noding_canon.calls k A0 c0 l0 c _ (Kd.C_below HR.out HB3.out) hc0 Hc.out).mono ?_; rintro e' w4 ⟨v32, rfl, ho4, hb4⟩; obtain ⟨A32, c32, rfl⟩ := Kd.R_slice ho4; have HC5 := aM (Kd.C_below HC3.out hb4); have HC4 := aM (rR ho4).2.2; have HB4 := aM (HB3.out.trans (hb4.mono HB3.out.size)); clear ho4 hb4)
    | go_in)
   clear HO HB HSRT HO2 HB2 HC3 HB3 HC1 HB1
   have hbigc : c.length ≤ 9223372036854775807 := HC4.out.2.1
   have hbige : es.length ≤ 9223372036854775807 := HC5.out.2.1
   go_loopg [34, 6] c.length (fun gg v34 v6 wr => ∃ (j : Nat) (acc : List S35), j ≤ c.length ∧ c.length - j ≤ gg ∧ v34 = .int .i64 j ∧ Aside0 (noding_Split.all k es (c.drop j) acc = some out) ∧ Aside0 (Kd.R k35 35 wr w4.heap.size (fun _ => True) v6 acc) ∧ Aside0 (Below w4.heap.size w4 wr))
   case atStart => exact ⟨0, [], by omega, by omega, rfl, Hout, ⟨Kd.R_nil _ _ _ _ _⟩, ⟨Below.refl _ _⟩⟩
   case round =>
    clear Hout
    obtain ⟨j, acc, hj, hg, rfl, HA, HO, HB⟩ := hrel
    by_cases hlt : j < c.length
    ·have hltI : (j : Int) < (c.length : Int) := by omega
     obtain ⟨ad, e0, hx0, hx1, hx2, hx3⟩ := at_T35 (Kd.C_below HC4.out HB.out) (j : Int) (by omega) (by omega)
     cases e0
     have hy : rd_T35 c (j : Int) = c[j] := by unfold rd_T35; rw [Int.toNat_natCast, List.getD_eq_getElem?_getD, List.getElem?_eq_getElem hlt]; rfl
     have hd := List.drop_eq_getElem_cons hlt
     have H := HA.out
     rw [hd] at H
     rw [hy, Int.toNat_natCast] at hx0 hx1 hx2 hx3
     clear HA hd hy
     generalize c[j] = s at hx0 hx1 hx2 hx3 H
     have H1 := aM (show (noding_Split.cut k s s.f0 es acc).bind (fun r => if r.2.length < 1000000000 then noding_Split.all k es (c.drop (j + 1)) (r.2 ++ [⟨r.1, s.f1⟩]) else none) = some out from H)
     clear H
     have HWS := aM HB.out.size
     have hlt6 := fun k hk => Kd.R_lt HO.out k hk
     have HN := aM (show ∀ k, u6.ownBlock = some k → k ≠ wr.heap.size ∧ k ≠ wr.heap.size + 1 from fun k hk => by have := hlt6 k hk; omega)
     clear hlt6
     obtain ⟨wb, hwb⟩ : ∃ wb, wb = (wr.alloc (.cells #[.int .i64 s.f0.f0, .int .i64 s.f0.f1, .int .i64 s.f1.f0, .int .i64 s.f1.f1] 35)).alloc (.cells #[.int .i64 s.f0.f0, .int .i64 s.f0.f1] 33) := ⟨_, rfl⟩
     have hO2 : Kd.R k35 35 wb w4.heap.size (fun _ => True) u6 acc := by rw [hwb]; exact rA (rA HO.out _) _
     have hB2 : Below w4.heap.size w4 wb := by rw [hwb]; exact (HB.out.alloc HB.out.size _).alloc (HB.out.alloc HB.out.size _).size _
     have hs2 : wb.heap[wr.heap.size]? = some (.cells #[.int .i64 s.f0.f0, .int .i64 s.f0.f1, .int .i64 s.f1.f0, .int .i64 s.f1.f1] 35 (0, 0)) := by rw [hwb]; exact ((Go.MapKept.heap_alloc _ _).2 _ (by simp)).trans (Go.MapKept.heap_alloc _ _).1
     have hf2 : wb.heap[wr.heap.size + 1]? = some (.cells #[.int .i64 s.f0.f0, .int .i64 s.f0.f1] 33 (0, 0)) := by
      have hh := (Go.MapKept.heap_alloc (wr.alloc (.cells #[.int .i64 s.f0.f0, .int .i64 s.f0.f1, .int .i64 s.f1.f0, .int .i64 s.f1.f1] 35)) (.cells #[.int .i64 s.f0.f0, .int .i64 s.f0.f1] 33)).1
      rw [show (wr.alloc (.cells #[.int .i64 s.f0.f0, .int .i64 s.f0.f1, .int .i64 s.f1.f0, .int .i64 s.f1.f1] 35)).heap.size = wr.heap.size + 1 by simp] at hh
      rw [hwb]; exact hh
     have hz2 : wr.heap.size + 1 < wb.heap.size := by rw [hwb]; simp
     have HO2 := aM hO2
     have HB2 := aM hB2
     have HS2 := aM hs2
     have HF2 := aM hf2
     have HZ2 := aM hz2
     clear hO2 hB2 hs2 hf2 hz2 HO HB
     go_wp2
     rw [← hwb]
     obtain ⟨sb, hsb⟩ : ∃ sb, sb = wr.heap.size := ⟨_, rfl⟩
     rw [← hsb]
     rw [← hsb] at HS2 HF2 HZ2 HN
     have HSB := aM (show w4.heap.size ≤ sb + 1 from by have := HWS.out; omega)
     clear hsb hwb
     go_loopg [42, 6] es.length (fun g2 v42 v6 wi => ∃ (m : Nat) (p : S33) (acc : List S35), m ≤ es.length ∧ es.length - m ≤ g2 ∧ v42 = .int .i64 m ∧ Aside0 ((noding_Split.cut k s p (es.drop m) acc).bind (fun r => if r.2.length < 1000000000 then noding_Split.all k es (c.drop (j + 1)) (r.2 ++ [⟨r.1, s.f1⟩]) else none) = some out) ∧ Aside0 (Kd.R k35 35 wi w4.heap.size (fun _ => True) v6 acc) ∧ Aside0 (Below w4.heap.size w4 wi) ∧ Aside0 (wi.heap[sb]? = some (.cells #[.int .i64 s.f0.f0, .int .i64 s.f0.f1, .int .i64 s.f1.f0, .int .i64 s.f1.f1] 35 (0, 0))) ∧ Aside0 (wi.heap[sb + 1]? = some (.cells #[.int .i64 p.f0, .int .i64 p.f1] 33 (0, 0))) ∧ Aside0 (∀ k, v6.ownBlock = some k → k ≠ sb ∧ k ≠ sb + 1))
     case atStart => exact ⟨0, s.f0, acc, by omega, by omega, rfl, H1, HO2, HB2, HS2, HF2, HN⟩
     case round =>
      clear H1 HO2 HB2 HS2 HF2 HN HZ2
      obtain ⟨m, p, acc, hm, hg2, rfl, HA, HO, HBi, HS, HFm, HN⟩ := hrel
      have hw4 := HBi.out.size
      by_cases hml : m < es.length
      ·have hmlI : (m : Int) < (es.length : Int) := by omega
       obtain ⟨ad2, e0, hy0, hy1⟩ := at_T33 (Kd.C_below HC5.out HBi.out) (m : Int) (by omega) (by omega)
       cases e0
       have hy : rd_T33 es (m : Int) = es[m] := by unfold rd_T33; rw [Int.toNat_natCast, List.getD_eq_getElem?_getD, List.getElem?_eq_getElem hml]; rfl
       have hd := List.drop_eq_getElem_cons hml
       have H := HA.out
       rw [hd] at H
       rw [hy, Int.toNat_natCast] at hy0 hy1
       clear HA hd hy
       generalize es[m] = q at hy0 hy1 H
       unfold noding_Split.cut at H
       rw [Option.bind_assoc] at H
       obtain ⟨b, hb, H⟩ := Option.bind_eq_some_iff.mp H
       have HW := aM hb
       clear hb
       have HSL := aM (blk_lt HS.out)
       have HFL := aM (blk_lt HFm.out)
       have hs5 := ((Go.MapKept.heap_alloc wr (.cells #[.int .i64 q.f0, .int .i64 q.f1] 33)).2 sb HSL.out).trans HS.out
       have hf5 := ((Go.MapKept.heap_alloc wr (.cells #[.int .i64 q.f0, .int .i64 q.f1] 33)).2 (sb + 1) HFL.out).trans HFm.out
       have hcell : ∀ (W : World), W.heap[sb]? = some (.cells #[.int .i64 s.f0.f0, .int .i64 s.f0.f1, .int .i64 s.f1.f0, .int .i64 s.f1.f1] 35 (0, 0)) → W.heap[sb + 1]? = some (.cells #[.int .i64 p.f0, .int .i64 p.f1] 33 (0, 0)) → W.cell? ⟨sb, 0, none⟩ = some (.int .i64 s.f0.f0) ∧ W.cell? ⟨sb, 1, none⟩ = some (.int .i64 s.f0.f1) ∧ W.cell? ⟨sb, 2, none⟩ = some (.int .i64 s.f1.f0) ∧ W.cell? ⟨sb, 3, none⟩ = some (.int .i64 s.f1.f1) ∧ W.cell? ⟨sb + 1, 0, none⟩ = some (.int .i64 p.f0) ∧ W.cell? ⟨sb + 1, 1, none⟩ = some (.int .i64 p.f1) := fun W h1 h2 => ⟨(kC h1 0).trans rfl, (kC h1 1).trans rfl, (kC h1 2).trans rfl, (kC h1 3).trans rfl, (kC h2 0).trans rfl, (kC h2 1).trans rfl⟩
       obtain ⟨g0, g1, g2, g3, g4, g5⟩ := hcell _ hs5 hf5
       have HCL := aM hcell
       have HS5 := aM hs5
       have HF5 := aM hf5
       clear hcell hs5 hf5
       have hqb : ∀ (W : World), Below (wr.alloc (.cells #[.int .i64 q.f0, .int .i64 q.f1] 33)).heap.size (wr.alloc (.cells #[.int .i64 q.f0, .int .i64 q.f1] 33)) W → W.heap[sb]? = some (.cells #[.int .i64 s.f0.f0, .int .i64 s.f0.f1, .int .i64 s.f1.f0, .int .i64 s.f1.f1] 35 (0, 0)) ∧ W.heap[sb + 1]? = some (.cells #[.int .i64 p.f0, .int .i64 p.f1] 33 (0, 0)) ∧ W.cell? ⟨wr.heap.size, 0, none⟩ = some (.int .i64 q.f0) ∧ W.cell? ⟨wr.heap.size, 1, none⟩ = some (.int .i64 q.f1) ∧ Kd.R k35 35 W w4.heap.size (fun _ => True) u6 acc ∧ Below w4.heap.size w4 W ∧ wr.heap.size < W.heap.size := fun W hb => ⟨(hb.block sb (by have := HSL.out; simp; omega)).trans HS5.out, (hb.block (sb + 1) (by have := HFL.out; simp; omega)).trans HF5.out, (hb.cell (p := ⟨wr.heap.size, 0, none⟩) (by simp)).trans (by simp), (hb.cell (p := ⟨wr.heap.size, 1, none⟩) (by simp)).trans (by simp), rB (rA HO.out _) hb, (HBi.out.alloc HBi.out.size _).trans (hb.mono (by simp; omega)), by have := hb.size; simp at this; omega⟩
       have HQB := aM hqb
       clear hqb
       cases b with
       | false =>
        have H' := aM (show (noding_Split.cut k s p (es.drop (m + 1)) acc).bind (fun r => if r.2.length < 1000000000 then noding_Split.all k es (c.drop (j + 1)) (r.2 ++ [⟨r.1, s.f1⟩]) else none) = some out from H)
        clear H
        go_wp2_with (first | (go_at_call 43; refine (seg_Within.calls k q.f0 q.f1 s.f0.f0 s.f0.f1 s.f1.f0 s.f1.f1 false _ HW.out).mono ?_; rintro e w5 ⟨rfl, hb5⟩; obtain ⟨z1, z2, z3, z4, z5, z6, z7⟩ := HQB.out w5 hb5; have Z1 := aM z1; have Z2 := aM z2; have Z5 := aM z5; have Z6 := aM z6; clear z1 z2 z3 z4 z5 z6 z7 hb5) | go_in)
        go_roundg (es.length - (m + 1))
        case measure => omega
        case rel => exact ⟨m + 1, p, acc, by omega, by omega, by go_num, H', Z5, Z6, Z1, Z2, HN⟩
       | true =>
        have hacc : acc.length < 1000000000 := by
         by_cases ha : acc.length < 1000000000
         ·exact ha
         ·rw [if_pos rfl, if_neg ha] at H; cases H
        rw [if_pos rfl, if_pos hacc] at H
        have H' := aM (show (noding_Split.cut k s q (es.drop (m + 1)) (acc ++ [⟨p, q⟩])).bind (fun r => if r.2.length < 1000000000 then noding_Split.all k es (c.drop (j + 1)) (r.2 ++ [⟨r.1, s.f1⟩]) else none) = some out from H)
        clear H
        go_wp2_with (first
         | (go_at_call 43; refine (seg_Within.calls k q.f0 q.f1 s.f0.f0 s.f0.f1 s.f1.f0 s.f1.f1 true _ HW.out).mono ?_; rintro e w5 ⟨rfl, hb5⟩; obtain ⟨z1, z2, hq0, hq1, z5, z6, z7⟩ := HQB.out w5 hb5; obtain ⟨k0, k1, k2, k3, k4, k5⟩ := HCL.out w5 z1 z2; have Z1 := aM z1; have Z2 := aM z2; have Z5 := aM z5; have Z6 := aM z6; have Z7 := aM z7; clear z1 z2 z5 z6 z7 hb5)
         | ((with_reducible refine gate_builtin (b := .append) (xs := #[.tmp 52, .tmp 56]) rfl ?_); at_builtin; refine Kd.R_append k35 (w0 := w4) w4.heap.size rfl (.tmp 52) (.tmp 56) 23 35 (.agg #[(.int .i64 0), (.int .i64 0), (.int .i64 0), (.int .i64 0)]) 32 rfl Try.underlying23 info35 rfl (by decide) (by omega) u6 acc ⟨p, q⟩ [.int .i64 p.f0, .int .i64 p.f1, .int .i64 q.f0, .int .i64 q.f1] (fun _ => True) (fun _ => False) rfl rfl (k35_mkM _ _ _ (⟨p, q⟩ : S35)) (fun _ hk => hk.elim) (fun _ _ => trivial) Z5.out Z6.out Z6.out.size (by omega) ?_; intro v6 w6 ho6 hb6 hg6 hat6; have HO6 := aM ho6; have HB6 := aM hb6; have hn1 : some sb ≠ u6.ownBlock := (fun he => (HN.out sb he.symm).1 rfl); have hn2 : some (sb + 1) ≠ u6.ownBlock := (fun he => (HN.out _ he.symm).2 rfl); have hn3 : some wr.heap.size ≠ u6.ownBlock := (fun he => by have := Kd.R_lt HO.out _ he.symm; omega); have Y1 := aM (blk_grown Z1.out hg6 hn1); have Y2 := aM (blk_grown Z2.out hg6 hn2); have q0 := hg6.cell hq0 hn3; have q1 := hg6.cell hq1 hn3; have HAT := aM hat6; have f0 := kF Y2.out 0; have f1 := kF Y2.out 1; have m0 : w6.cell? ⟨sb + 1, 0, none⟩ = some (.int .i64 p.f0) := (kC Y2.out 0).trans rfl; have m1 : w6.cell? ⟨sb + 1, 1, none⟩ = some (.int .i64 p.f1) := (kC Y2.out 1).trans rfl; clear ho6 hb6 hg6 hat6 hn1 hn2 hn3)
         | go_in)
        have hn6 : ∀ k, v6.ownBlock = some k → k ≠ sb ∧ k ≠ sb + 1 := fun k hk => by
         rcases HAT.out with ha | ⟨b, hb, hle⟩
         ·rw [ha] at hk; exact HN.out k hk
         ·rw [hb] at hk; cases hk; have := Z7.out; have := HSL.out; have := HFL.out; omega
        have hg := set2_grown w6 (sb + 1) (.int .i64 q.f0) (.int .i64 q.f1)
        have hsl : w4.heap.size ≤ sb + 1 := HSB.out
        go_roundg (es.length - (m + 1))
        case measure => omega
        case rel => exact ⟨m + 1, q, acc ++ [⟨p, q⟩], by omega, by omega, by go_num, H', ⟨Kd.R_grown2 HO6.out rfl hg (fun k hk he => by cases hk; exact (hn6 _ he.symm).2 rfl)⟩, ⟨HB6.out.grown hg HB6.out.size (fun k hk => by cases hk; exact hsl)⟩, ⟨blk_grown Y1.out hg (by simp)⟩, ⟨kP (kP Y2.out 0 _ rfl) 1 _ rfl⟩, ⟨hn6⟩⟩
      ·have hme : m = es.length := by omega
       have H := HA.out
       rw [List.drop_eq_nil_of_le (by omega)] at H
       replace H : (if acc.length < 1000000000 then noding_Split.all k es (c.drop (j + 1)) (acc ++ [⟨p, s.f1⟩]) else none) = some out := H
       have hacc : acc.length < 1000000000 := by
        by_cases ha : acc.length < 1000000000
        ·exact ha
        ·rw [if_neg ha] at H; cases H
       rw [if_pos hacc] at H
       have H' := aM H
       clear H HA
       have g0 : wr.cell? ⟨sb, 2, none⟩ = some (.int .i64 s.f1.f0) := (kC HS.out 2).trans rfl
       have g1 : wr.cell? ⟨sb, 3, none⟩ = some (.int .i64 s.f1.f1) := (kC HS.out 3).trans rfl
       have g4 : wr.cell? ⟨sb + 1, 0, none⟩ = some (.int .i64 p.f0) := (kC HFm.out 0).trans rfl
       have g5 : wr.cell? ⟨sb + 1, 1, none⟩ = some (.int .i64 p.f1) := (kC HFm.out 1).trans rfl
       go_wp2_with (first
        | ((with_reducible refine gate_builtin (b := .append) (xs := #[.tmp 60, .tmp 65]) rfl ?_); at_builtin; refine Kd.R_append k35 (w0 := w4) w4.heap.size rfl (.tmp 60) (.tmp 65) 23 35 (.agg #[(.int .i64 0), (.int .i64 0), (.int .i64 0), (.int .i64 0)]) 32 rfl Try.underlying23 info35 rfl (by decide) (by omega) u6 acc ⟨p, s.f1⟩ [.int .i64 p.f0, .int .i64 p.f1, .int .i64 s.f1.f0, .int .i64 s.f1.f1] (fun _ => True) (fun _ => False) rfl rfl (k35_mkM _ _ _ (⟨p, s.f1⟩ : S35)) (fun _ hk => hk.elim) (fun _ _ => trivial) HO.out HBi.out HBi.out.size (by omega) ?_; intro v6 w6 ho6 hb6 hg6 hat6; have HO6 := aM ho6; have HB6 := aM hb6; clear ho6 hb6 hg6 hat6)
        | go_in)
       go_roundg (c.length - (j + 1))
       case measure => omega
       case rel => exact ⟨j + 1, acc ++ [⟨p, s.f1⟩], by omega, by omega, by go_num, H', HO6, HB6⟩
    ·have hjc : j = c.length := by omega
     subst hjc
     have H := HA.out
     rw [List.drop_length] at H
     obtain rfl := Option.some.inj (show some acc = some out from H)
     obtain ⟨A6, c6, e6⟩ := Kd.R_slice HO.out
     subst e6
     have hrd := rR HO.out
     go_wp2_with (first | (go_at_call 13; refine (noding_Sort.calls k A6 c6 acc r _ hrd.2.2 hrd.2.1 HF.out).mono ?_; rintro e' w9 ⟨v9, rfl, ho9, hb9⟩) | go_in)
     go_ret
     have hsz := HB4.out.trans (HB.out.mono HB4.out.size)
     exact ⟨_, rfl, Kd.R_lower ho9 hsz.size, hsz.trans (hb9.mono hsz.size)⟩
def seg_sign.f (a0 : Int) : Option (Int) := some (mn 1 (mx (-1) a0))
set_option maxHeartbeats 8000000 in
set_option maxRecDepth 100000 in
theorem seg_sign.calls (a0 : Int) (r : Int) (w : World) (h : seg_sign.f a0 = some r) :
  Calls Try.prog 63 #[.int .i64 a0] w fun e w' => e = .returned (.int .i64 r) ∧ Below w.heap.size w w' := by
 have HB := aM (Below.refl w.heap.size w)
 have H : (some (mn 1 (mx (-1) a0))) = some r := h
 clear h
 obtain ⟨ji2, hji2⟩ : ∃ j_ : Int, (mx (-1) a0) = j_ := ⟨_, rfl⟩
 replace H : (some (mn 1 (ji2))) = some r := by first | (rw [hji2] at H; exact H) | (simp only [hji2] at H ⊢; exact H)
 have hji2_ : (if (-1) < a0 then a0 else (-1)) = ji2 := hji2
 obtain ⟨ji3, hji3⟩ : ∃ j_ : Int, (mn 1 (ji2)) = j_ := ⟨_, rfl⟩
 replace H : (some ji3) = some r := by first | (rw [hji3] at H; exact H) | (simp only [hji3] at H ⊢; exact H)
 have hji3_ : (if (ji2) < 1 then (ji2) else 1) = ji3 := hji3
 obtain rfl := Option.some.inj H
 go_enter Try.func63, Try.ntmps63
 go_wp2
 go_ret
 exact ⟨by first | rfl | (simp [errW_none, errW_some] <;> rfl) | (simp only [← hji2, ← hji3]; first | rfl | (simp [errW_none, errW_some] <;> rfl)) | (simp [*, errW_none, errW_some] <;> rfl), bl⟩
end Go.Proofs.Ytmejeiddlhjjmaa.PNodingClean
