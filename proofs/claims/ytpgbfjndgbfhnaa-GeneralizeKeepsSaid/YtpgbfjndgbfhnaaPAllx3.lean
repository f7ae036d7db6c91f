-- out of a driver of this session's prover over the kit's print: Lean checks it
import Derived.Test.YtpgbfjndgbfhnaaPAllx0
import Derived.Test.YtpgbfjndgbfhnaaPAllx1
namespace Go.Proofs.Ytpgbfjndgbfhnaa.PAll
open Go.Proofs.YtpgbfjndgbfhnaaG Go.Shelf Go.Lib
open Go.RowKit Go.Proofs.YtpgbfjndgbfhnaaW.PrintWords Go.Proofs.YtpgbfjndgbfhnaaW.PrintLast Go.Proofs.YtpgbfjndgbfhnaaW.PrintMore
attribute [local go_sem] max2_int min2_int max_two min_two max_three min_three max_four min_four   -- for this text's walks alone
set_option linter.unusedVariables false
set_option linter.unusedSimpArgs false
attribute [local go_sem high] eqA40
def mapmakerlaw26_few.l0 : Nat → List (S31) → Int → Int → Option (Bool)
 | 0, _, _, _ => none
 | k + 1, x0, x3, x4 => if x4 < (x0.length : Int) then (if x3 ≤ 80 then (if 0 ≤ x4 then (mapmakerlaw26_few.l0 k x0 (wrap64 ((wrap64 ((wrap64 (x3 + (((rd_T31 x0 x4).f1).length : Int))) + (((rd_T31 x0 x4).f2).length : Int))) + (((rd_T31 x0 x4).f3).length : Int))) (wrap64 (x4 + 1))) else (none)) else (some (decide (x3 ≤ 80)))) else (some (decide (x3 ≤ 80)))
def mapmakerlaw26_few.f (k : Nat) (l0 : List (S31)) : Option (Bool) := mapmakerlaw26_few.l0 k l0 (l0.length : Int) 0
theorem mapmakerlaw26_few.mono_l : ∀ k, (∀ y0 y1 y2, LeO (mapmakerlaw26_few.l0 k y0 y1 y2) (mapmakerlaw26_few.l0 (k + 1) y0 y1 y2))
 | 0 => fun _ _ _ r h => by simp [mapmakerlaw26_few.l0] at h
 | k + 1 => by
  have ih0 := mapmakerlaw26_few.mono_l k
  ·intro y0 y1 y2
   unfold mapmakerlaw26_few.l0
   repeat' first
   | (with_reducible exact ih0 _ _ _)
   | (with_reducible exact LeO.refl _)
   | (with_reducible exact LeO.none _)
   | (with_reducible refine LeO.ite ?_ ?_)
   | (with_reducible refine LeO.bind ?_ (fun _ => ?_))
   | exact ih0 _ _ _
   | exact LeO.none _
   | refine LeO.ite ?_ ?_
   | refine LeO.bind ?_ (fun _ => ?_)
theorem mapmakerlaw26_few.mono : ∀ a0 k, LeO (mapmakerlaw26_few.f k a0) (mapmakerlaw26_few.f (k + 1) a0) := by
 intro a0 k
 have ih0 := mapmakerlaw26_few.mono_l k
 unfold mapmakerlaw26_few.f
 repeat' first
   | (with_reducible exact ih0 _ _ _)
   | (with_reducible exact LeO.refl _)
   | (with_reducible exact LeO.none _)
   | (with_reducible refine LeO.ite ?_ ?_)
   | (with_reducible refine LeO.bind ?_ (fun _ => ?_))
   | exact ih0 _ _ _
   | exact LeO.none _
   | refine LeO.ite ?_ ?_
   | refine LeO.bind ?_ (fun _ => ?_)
set_option maxHeartbeats 8000000 in
set_option maxRecDepth 100000 in
theorem mapmakerlaw26_few.calls (k : Nat) (A0 : Option Addr) (c0 : Nat) (l0 : List (S31)) (r : Bool) (w : World) (hr0 : Kd.C k31 w A0 l0.length l0) (hc0 : l0.length ≤ c0) (h : mapmakerlaw26_few.f k l0 = some r) :
  Calls Try.prog 7 #[.slice A0 l0.length c0] w fun e w' => e = .returned (.bool r) ∧ Drawn0 w w' := by
 have HR0 := aM hr0
 have HC0 := aM hc0
 clear hr0 hc0
 have H : (mapmakerlaw26_few.l0 k l0 (l0.length : Int) 0) = some r := h
 clear h
 have H' := aM H
 clear H
 go_enter Try.func7, Try.ntmps7
 go_wp2
 repeat (go_quiet (fail); try go_wp2)
 go_loopg [3, 4] k (fun kq v3 v4 w' => ∃ (x3_1 : Int) (x4_1 : Int), v3 = .int .i64 x3_1 ∧ v4 = .int .i64 x4_1 ∧ Aside0 (mapmakerlaw26_few.l0 kq l0 x3_1 x4_1 = some r) ∧ Aside0 (kq ≤ k) ∧ Drawn0 w w')
 case atStart => exact ⟨((l0.length : Int)), (0), (by first | rfl | (simp; done) | (simp [*]; done)), (by first | rfl | (simp; done) | (simp [*]; done)), H', ⟨Nat.le_refl _⟩, by repeat (first | exact Drawn0.refl _ | apply Drawn0.step)⟩
 case round =>
  clear H'
  obtain ⟨x3_1, x4_1, rfl, rfl, HA, HK1, ⟨m1, rfl⟩⟩ := hrel
  cases gk with
  | zero => exact absurd HA.out (by simp [mapmakerlaw26_few.l0])
  | succ k1 =>
   have H := HA.out
   clear HA
   simp only [mapmakerlaw26_few.l0] at H
   by_cases c2 : x4_1 < (l0.length : Int)
   ·rw [if_pos c2] at H
    have c2b0 : decide (x4_1 < (l0.length : Int)) = true := decide_eq_true c2
    clear c2
    by_cases c3 : x3_1 ≤ 80
    ·rw [if_pos c3] at H
     have c3b0 : decide (x3_1 ≤ 80) = true := decide_eq_true c3
     clear c3
     by_cases c4 : 0 ≤ x4_1
     ·rw [if_pos c4] at H
      have c4b0 : decide (0 ≤ x4_1) = true := decide_eq_true c4
      clear c4
      have H' := aM H
      clear H
      have p101 : 0 ≤ (x4_1 : Int) := of_decide_eq_true (by first | (with_reducible assumption) | assumption)
      have q101 : x4_1 < (l0.length : Int) := of_decide_eq_true (by first | (with_reducible assumption) | assumption)
      obtain ⟨ad101, A101_1, c101_1, A101_2, c101_2, A101_3, c101_3, e101, hx101_0, hx101_1, hx101_2, hx101_3, hl101_1, hi101_1, hl101_2, hi101_2, hl101_3, hi101_3⟩ := at_T31 HR0.out x4_1 p101 q101
      cases e101
      have HR101_1 := aM hi101_1
      have HC101_1 := aM hl101_1
      clear hi101_1 hl101_1
      have HR101_2 := aM hi101_2
      have HC101_2 := aM hl101_2
      clear hi101_2 hl101_2
      have HR101_3 := aM hi101_3
      have HC101_3 := aM hl101_3
      clear hi101_3 hl101_3
      replace p101 := eq_true p101
      replace q101 := eq_true q101
      have p102 : 0 ≤ (x4_1 : Int) := of_decide_eq_true (by first | (with_reducible assumption) | assumption)
      have q102 : x4_1 < (l0.length : Int) := of_decide_eq_true (by first | (with_reducible assumption) | assumption)
      obtain ⟨ad102, A102_1, c102_1, A102_2, c102_2, A102_3, c102_3, e102, hx102_0, hx102_1, hx102_2, hx102_3, hl102_1, hi102_1, hl102_2, hi102_2, hl102_3, hi102_3⟩ := at_T31 HR0.out x4_1 p102 q102
      obtain rfl : ad101 = ad102 := (by injection e102)
      have HR102_1 := aM hi102_1
      have HC102_1 := aM hl102_1
      clear hi102_1 hl102_1
      have HR102_2 := aM hi102_2
      have HC102_2 := aM hl102_2
      clear hi102_2 hl102_2
      have HR102_3 := aM hi102_3
      have HC102_3 := aM hl102_3
      clear hi102_3 hl102_3
      replace p102 := eq_true p102
      replace q102 := eq_true q102
      have ea_ := Option.some.inj (hx101_1.symm.trans hx102_1)
      injection ea_ with ea_ en_ ec_
      subst ea_
      subst ec_
      clear en_
      have ea_ := Option.some.inj (hx101_2.symm.trans hx102_2)
      injection ea_ with ea_ en_ ec_
      subst ea_
      subst ec_
      clear en_
      have ea_ := Option.some.inj (hx101_3.symm.trans hx102_3)
      injection ea_ with ea_ en_ ec_
      subst ea_
      subst ec_
      clear en_
      have p103 : 0 ≤ (x4_1 : Int) := of_decide_eq_true (by first | (with_reducible assumption) | assumption)
      have q103 : x4_1 < (l0.length : Int) := of_decide_eq_true (by first | (with_reducible assumption) | assumption)
      obtain ⟨ad103, A103_1, c103_1, A103_2, c103_2, A103_3, c103_3, e103, hx103_0, hx103_1, hx103_2, hx103_3, hl103_1, hi103_1, hl103_2, hi103_2, hl103_3, hi103_3⟩ := at_T31 HR0.out x4_1 p103 q103
      obtain rfl : ad101 = ad103 := (by injection e103)
      have HR103_1 := aM hi103_1
      have HC103_1 := aM hl103_1
      clear hi103_1 hl103_1
      have HR103_2 := aM hi103_2
      have HC103_2 := aM hl103_2
      clear hi103_2 hl103_2
      have HR103_3 := aM hi103_3
      have HC103_3 := aM hl103_3
      clear hi103_3 hl103_3
      replace p103 := eq_true p103
      replace q103 := eq_true q103
      have ea_ := Option.some.inj (hx101_1.symm.trans hx103_1)
      injection ea_ with ea_ en_ ec_
      subst ea_
      subst ec_
      clear en_
      have ea_ := Option.some.inj (hx101_2.symm.trans hx103_2)
      injection ea_ with ea_ en_ ec_
      subst ea_
      subst ec_
      clear en_
      have ea_ := Option.some.inj (hx101_3.symm.trans hx103_3)
      injection ea_ with ea_ en_ ec_
      subst ea_
      subst ec_
      clear en_
      go_wp2
      repeat (go_quiet (fail); try go_wp2)
      go_roundg k1
      case measure => have := HK1.out; omega
      case rel => exact ⟨(wrap64 ((wrap64 ((wrap64 (x3_1 + (((rd_T31 l0 x4_1).f1).length : Int))) + (((rd_T31 l0 x4_1).f2).length : Int))) + (((rd_T31 l0 x4_1).f3).length : Int))), (wrap64 (x4_1 + 1)), (by first | rfl | (simp; done) | (simp [*]; done)), (by first | rfl | (simp; done) | (simp [*]; done)), H', ⟨by have := HK1.out; omega⟩, by repeat (first | exact Drawn0.refl _ | apply Drawn0.step)⟩
     ·rw [if_neg c4] at H
      exact absurd H (by simp)
    ·rw [if_neg c3] at H
     have c3b0 : decide (x3_1 ≤ 80) = false := decide_eq_false c3
     clear c3
     obtain rfl := Option.some.inj H
     go_wp2
     repeat (go_quiet (fail); try go_wp2)
     go_ret
     exact ⟨by first | rfl | (simp; done) | (simp [*]; done), by repeat (first | exact Drawn0.refl _ | apply Drawn0.step)⟩
   ·rw [if_neg c2] at H
    have c2b0 : decide (x4_1 < (l0.length : Int)) = false := decide_eq_false c2
    clear c2
    obtain rfl := Option.some.inj H
    go_wp2
    repeat (go_quiet (fail); try go_wp2)
    go_ret
    exact ⟨by first | rfl | (simp; done) | (simp [*]; done), by repeat (first | exact Drawn0.refl _ | apply Drawn0.step)⟩
def mapmakerref26_Has.l0 : Nat → List (S40) → Int → Int → Int → Option (Bool)
 | 0, _, _, _, _ => none
 | k + 1, x0, x5, x105000, x105001 => if x5 < (x0.length : Int) then (if 0 ≤ x5 then (if (((rd_T40 x0 x5).f0) == x105000 && (((rd_T40 x0 x5).f1) == x105001)) = true then (some true) else (mapmakerref26_Has.l0 k x0 (wrap64 (x5 + 1)) x105000 x105001)) else (none)) else (some false)
def mapmakerref26_Has.f (k : Nat) (l0 : List (S40)) (a1_0 : Int) (a1_1 : Int) : Option (Bool) := mapmakerref26_Has.l0 k l0 0 a1_0 a1_1
theorem mapmakerref26_Has.mono_l : ∀ k, (∀ y0 y1 y2 y3, LeO (mapmakerref26_Has.l0 k y0 y1 y2 y3) (mapmakerref26_Has.l0 (k + 1) y0 y1 y2 y3))
 | 0 => fun _ _ _ _ r h => by simp [mapmakerref26_Has.l0] at h
 | k + 1 => by
  have ih0 := mapmakerref26_Has.mono_l k
  ·intro y0 y1 y2 y3
   unfold mapmakerref26_Has.l0
   repeat' first
   | (with_reducible exact ih0 _ _ _ _)
   | (with_reducible exact LeO.refl _)
   | (with_reducible exact LeO.none _)
   | (with_reducible refine LeO.ite ?_ ?_)
   | (with_reducible refine LeO.bind ?_ (fun _ => ?_))
   | exact ih0 _ _ _ _
   | exact LeO.none _
   | refine LeO.ite ?_ ?_
   | refine LeO.bind ?_ (fun _ => ?_)
theorem mapmakerref26_Has.mono : ∀ a0 a1 a2 k, LeO (mapmakerref26_Has.f k a0 a1 a2) (mapmakerref26_Has.f (k + 1) a0 a1 a2) := by
 intro a0 a1 a2 k
 have ih0 := mapmakerref26_Has.mono_l k
 unfold mapmakerref26_Has.f
 repeat' first
   | (with_reducible exact ih0 _ _ _ _)
   | (with_reducible exact LeO.refl _)
   | (with_reducible exact LeO.none _)
   | (with_reducible refine LeO.ite ?_ ?_)
   | (with_reducible refine LeO.bind ?_ (fun _ => ?_))
   | exact ih0 _ _ _ _
   | exact LeO.none _
   | refine LeO.ite ?_ ?_
   | refine LeO.bind ?_ (fun _ => ?_)
set_option maxHeartbeats 8000000 in
set_option maxRecDepth 100000 in
theorem mapmakerref26_Has.calls (k : Nat) (A0 : Option Addr) (c0 : Nat) (l0 : List (S40)) (a1_0 : Int) (a1_1 : Int) (r : Bool) (w : World) (hr0 : Kd.C k40 w A0 l0.length l0) (hc0 : l0.length ≤ c0) (h : mapmakerref26_Has.f k l0 a1_0 a1_1 = some r) :
  Calls Try.prog 19 #[.slice A0 l0.length c0, .agg #[.int .i64 a1_0, .int .i64 a1_1]] w fun e w' => e = .returned (.bool r) ∧ Below w.heap.size w w' := by
 have hu40 := Try.underlying40
 have HR0 := aM hr0
 have HC0 := aM hc0
 clear hr0 hc0
 have HB := aM (Below.refl w.heap.size w)
 have H : (mapmakerref26_Has.l0 k l0 0 a1_0 a1_1) = some r := h
 clear h
 have H' := aM H
 clear H
 go_enter Try.func19, Try.ntmps19
 go_wp2_with (first | ((with_reducible refine gate_dst (N := 3) rfl ?_); refine box_event ?hg (N := 3) ?hd (cs := #[.int .i64 a1_0, .int .i64 a1_1]) (t := 40) ?hr ?_; (case hd => rfl); (case hg => rfl); (case hr => first | (go_simp; done) | (go_simp; rfl)); intro gb104 hg w3 hbox hb; have n0_ := aM (bS (bl) hb); have n1_ := aM (hbox); have n2_ := aM ((by rw [hg]; exact (below_size (bl)) : w.heap.size ≤ gb104)); have n3_ := aM ((by rw [hg]; exact (below_size (bl)) : w.heap.size ≤ gb104)); clear HB; have HB := n0_; have BK104 := n1_; have GW104 := n2_; have GE104 := n3_; clear n0_ n1_ n2_ n3_ hb hbox hg))
 repeat (go_quiet (first | ((with_reducible refine gate_dst (N := 3) rfl ?_); refine box_event ?hg (N := 3) ?hd (cs := #[.int .i64 a1_0, .int .i64 a1_1]) (t := 40) ?hr ?_; (case hd => rfl); (case hg => rfl); (case hr => first | (go_simp; done) | (go_simp; rfl)); intro gb104 hg w3 hbox hb; have n0_ := aM (bS (bl) hb); have n1_ := aM (hbox); have n2_ := aM ((by rw [hg]; exact (below_size (bl)) : w.heap.size ≤ gb104)); have n3_ := aM ((by rw [hg]; exact (below_size (bl)) : w.heap.size ≤ gb104)); clear HB; have HB := n0_; have BK104 := n1_; have GW104 := n2_; have GE104 := n3_; clear n0_ n1_ n2_ n3_ hb hbox hg)); try go_wp2_with (first | ((with_reducible refine gate_dst (N := 3) rfl ?_); refine box_event ?hg (N := 3) ?hd (cs := #[.int .i64 a1_0, .int .i64 a1_1]) (t := 40) ?hr ?_; (case hd => rfl); (case hg => rfl); (case hr => first | (go_simp; done) | (go_simp; rfl)); intro gb104 hg w3 hbox hb; have n0_ := aM (bS (bl) hb); have n1_ := aM (hbox); have n2_ := aM ((by rw [hg]; exact (below_size (bl)) : w.heap.size ≤ gb104)); have n3_ := aM ((by rw [hg]; exact (below_size (bl)) : w.heap.size ≤ gb104)); clear HB; have HB := n0_; have BK104 := n1_; have GW104 := n2_; have GE104 := n3_; clear n0_ n1_ n2_ n3_ hb hbox hg)))
 go_loopg [5] k (fun kq v5 w' => ∃ (x5_1 : Int), v5 = .int .i64 x5_1 ∧ Aside0 (mapmakerref26_Has.l0 kq l0 x5_1 a1_0 a1_1 = some r) ∧ Aside0 (kq ≤ k) ∧ Aside0 (w'.heap[gb104]? = some (.cells #[.int .i64 a1_0, .int .i64 a1_1] 40 (0, 0))) ∧ Aside0 (Below w.heap.size w w'))
 case atStart => exact ⟨(0), (by first | rfl | (simp; done) | (simp [*]; done)), H', ⟨Nat.le_refl _⟩, ⟨by (with_reducible repeat (first | refine kN ?_ _ | refine kD ?_ | refine kA ?_ _)); exact BK104.out⟩, ⟨bl⟩⟩
 case round =>
  clear H'
  try clear c1
  try clear p2
  obtain ⟨x5_1, rfl, HA, HK1, BK104, HB⟩ := hrel
  cases gk with
  | zero => exact absurd HA.out (by simp [mapmakerref26_Has.l0])
  | succ k1 =>
   have H := HA.out
   clear HA
   simp only [mapmakerref26_Has.l0] at H
   by_cases c4 : x5_1 < (l0.length : Int)
   ·rw [if_pos c4] at H
    have c4b0 : decide (x5_1 < (l0.length : Int)) = true := decide_eq_true c4
    clear c4
    by_cases c5 : 0 ≤ x5_1
    ·rw [if_pos c5] at H
     have c5b0 : decide (0 ≤ x5_1) = true := decide_eq_true c5
     clear c5
     by_cases c6 : (((rd_T40 l0 x5_1).f0) == a1_0 && (((rd_T40 l0 x5_1).f1) == a1_1)) = true
     ·rw [if_pos c6] at H
      have c6b0 : (((rd_T40 l0 x5_1).f0) == a1_0 && (((rd_T40 l0 x5_1).f1) == a1_1)) = true := c6
      (try (have c6b1 : decide (((rd_T40 l0 x5_1).f0) = a1_0 && (((rd_T40 l0 x5_1).f1) == a1_1)) = true := by simpa using c6))
      (try (have c6b2 : (((rd_T40 l0 x5_1).f0) == a1_0 && (((rd_T40 l0 x5_1).f1) == a1_1)) = true := by simpa using c6))
      clear c6
      obtain rfl := Option.some.inj H
      have p105 : 0 ≤ (x5_1 : Int) := of_decide_eq_true (by first | (with_reducible assumption) | assumption)
      have q105 : x5_1 < (l0.length : Int) := of_decide_eq_true (by first | (with_reducible assumption) | assumption)
      obtain ⟨ad105, e105, hx105_0, hx105_1⟩ := at_T40 HR0.out x5_1 p105 q105
      cases e105
      replace hx105_0 := (HB.out.cell (World.block_lt_of_cell? w _ hx105_0)).trans hx105_0
      replace hx105_1 := (HB.out.cell (World.block_lt_of_cell? w _ hx105_1)).trans hx105_1
      replace p105 := eq_true p105
      replace q105 := eq_true q105
      have hcz7_0 : wr.cell? ⟨gb104, 0, none⟩ = some (.int .i64 a1_0) := (kC BK104.out 0).trans rfl
      have hcz7_1 : wr.cell? ⟨gb104, 1, none⟩ = some (.int .i64 a1_1) := (kC BK104.out 1).trans rfl
      have hfz7_0 := kF BK104.out 0
      have hfz7_1 := kF BK104.out 1
      go_wp2
      repeat (go_quiet (fail); try go_wp2)
      go_ret
      exact ⟨by first | rfl | (simp [errW_none, errW_some] <;> rfl) | (simp [*, errW_none, errW_some] <;> rfl), bl⟩
     ·rw [if_neg c6] at H
      have c6b0 : (((rd_T40 l0 x5_1).f0) == a1_0 && (((rd_T40 l0 x5_1).f1) == a1_1)) = false := by simpa using c6
      (try (have c6b1 : decide (((rd_T40 l0 x5_1).f0) = a1_0 && (((rd_T40 l0 x5_1).f1) == a1_1)) = false := by simpa using c6))
      (try (have c6b2 : (((rd_T40 l0 x5_1).f0) == a1_0 && (((rd_T40 l0 x5_1).f1) == a1_1)) = false := by simpa using c6))
      (try (have c6b3 : ¬ (((rd_T40 l0 x5_1).f0) = a1_0 && (((rd_T40 l0 x5_1).f1) == a1_1)) := by simpa using c6))
      clear c6
      have H' := aM H
      clear H
      have p105 : 0 ≤ (x5_1 : Int) := of_decide_eq_true (by first | (with_reducible assumption) | assumption)
      have q105 : x5_1 < (l0.length : Int) := of_decide_eq_true (by first | (with_reducible assumption) | assumption)
      obtain ⟨ad105, e105, hx105_0, hx105_1⟩ := at_T40 HR0.out x5_1 p105 q105
      cases e105
      replace hx105_0 := (HB.out.cell (World.block_lt_of_cell? w _ hx105_0)).trans hx105_0
      replace hx105_1 := (HB.out.cell (World.block_lt_of_cell? w _ hx105_1)).trans hx105_1
      replace p105 := eq_true p105
      replace q105 := eq_true q105
      have hcz8_0 : wr.cell? ⟨gb104, 0, none⟩ = some (.int .i64 a1_0) := (kC BK104.out 0).trans rfl
      have hcz8_1 : wr.cell? ⟨gb104, 1, none⟩ = some (.int .i64 a1_1) := (kC BK104.out 1).trans rfl
      have hfz8_0 := kF BK104.out 0
      have hfz8_1 := kF BK104.out 1
      go_wp2
      repeat (go_quiet (fail); try go_wp2)
      go_roundg k1
      case measure => have := HK1.out; omega
      case rel => exact ⟨(wrap64 (x5_1 + 1)), (by first | rfl | (simp; done) | (simp [*]; done)), H', ⟨by have := HK1.out; omega⟩, ⟨by (with_reducible repeat (first | refine kN ?_ _ | refine kD ?_ | refine kA ?_ _)); exact BK104.out⟩, ⟨bl⟩⟩
    ·rw [if_neg c5] at H
     exact absurd H (by simp)
   ·rw [if_neg c4] at H
    have c4b0 : decide (x5_1 < (l0.length : Int)) = false := decide_eq_false c4
    clear c4
    obtain rfl := Option.some.inj H
    go_wp2
    repeat (go_quiet (fail); try go_wp2)
    go_ret
    exact ⟨by first | rfl | (simp [errW_none, errW_some] <;> rfl) | (simp [*, errW_none, errW_some] <;> rfl), bl⟩
def grid_Valid.f (a0_0 : Int) (a0_1 : Int) : Option (Bool) := if a0_0 ≥ 0 then (if a0_0 < 32768 then (if a0_1 ≥ 0 then (some (decide (a0_1 < 32768))) else (some false)) else (some false)) else (some false)
set_option maxHeartbeats 8000000 in
set_option maxRecDepth 100000 in
theorem grid_Valid.calls (a0_0 : Int) (a0_1 : Int) (r : Bool) (w : World) (h : grid_Valid.f a0_0 a0_1 = some r) :
  Calls Try.prog 23 #[.agg #[.int .i64 a0_0, .int .i64 a0_1]] w fun e w' => e = .returned (.bool r) ∧ Below w.heap.size w w' := by
 have hu40 := Try.underlying40
 have HB := aM (Below.refl w.heap.size w)
 have H : (if a0_0 ≥ 0 then (if a0_0 < 32768 then (if a0_1 ≥ 0 then (some (decide (a0_1 < 32768))) else (some false)) else (some false)) else (some false)) = some r := h
 clear h
 by_cases c2 : a0_0 ≥ 0
 ·rw [if_pos c2] at H
  have c2b0 : decide (0 ≤ a0_0) = true := decide_eq_true c2
  clear c2
  by_cases c3 : a0_0 < 32768
  ·rw [if_pos c3] at H
   have c3b0 : decide (a0_0 < 32768) = true := decide_eq_true c3
   clear c3
   by_cases c4 : a0_1 ≥ 0
   ·rw [if_pos c4] at H
    have c4b0 : decide (0 ≤ a0_1) = true := decide_eq_true c4
    clear c4
    obtain rfl := Option.some.inj H
    go_enter Try.func23, Try.ntmps23
    go_wp2_with (first | ((with_reducible refine gate_dst (N := 1) rfl ?_); refine box_event ?hg (N := 1) ?hd (cs := #[.int .i64 a0_0, .int .i64 a0_1]) (t := 40) ?hr ?_; (case hd => rfl); (case hg => rfl); (case hr => first | (go_simp; done) | (go_simp; rfl)); intro gb106 hg w5 hbox hb; have n0_ := aM (bS (bl) hb); have n1_ := aM (hbox); have n2_ := aM ((by rw [hg]; exact (below_size (bl)) : w.heap.size ≤ gb106)); have n3_ := aM ((by rw [hg]; exact (below_size (bl)) : w.heap.size ≤ gb106)); clear HB; have HB := n0_; have BK106 := n1_; have GW106 := n2_; have GE106 := n3_; clear n0_ n1_ n2_ n3_ hb hbox hg; have hcz6_0 : w5.cell? ⟨gb106, 0, none⟩ = some (.int .i64 a0_0) := (kC BK106.out 0).trans rfl; have hcz6_1 : w5.cell? ⟨gb106, 1, none⟩ = some (.int .i64 a0_1) := (kC BK106.out 1).trans rfl; have hfz6_0 := kF BK106.out 0; have hfz6_1 := kF BK106.out 1))
    go_ret
    exact ⟨by first | rfl | (simp [errW_none, errW_some] <;> rfl) | (simp [*, errW_none, errW_some] <;> rfl), bl⟩
   ·rw [if_neg c4] at H
    have c4b0 : decide (0 ≤ a0_1) = false := decide_eq_false c4
    clear c4
    obtain rfl := Option.some.inj H
    go_enter Try.func23, Try.ntmps23
    go_wp2_with (first | ((with_reducible refine gate_dst (N := 1) rfl ?_); refine box_event ?hg (N := 1) ?hd (cs := #[.int .i64 a0_0, .int .i64 a0_1]) (t := 40) ?hr ?_; (case hd => rfl); (case hg => rfl); (case hr => first | (go_simp; done) | (go_simp; rfl)); intro gb106 hg w7 hbox hb; have n0_ := aM (bS (bl) hb); have n1_ := aM (hbox); have n2_ := aM ((by rw [hg]; exact (below_size (bl)) : w.heap.size ≤ gb106)); have n3_ := aM ((by rw [hg]; exact (below_size (bl)) : w.heap.size ≤ gb106)); clear HB; have HB := n0_; have BK106 := n1_; have GW106 := n2_; have GE106 := n3_; clear n0_ n1_ n2_ n3_ hb hbox hg; have hcz8_0 : w7.cell? ⟨gb106, 0, none⟩ = some (.int .i64 a0_0) := (kC BK106.out 0).trans rfl; have hcz8_1 : w7.cell? ⟨gb106, 1, none⟩ = some (.int .i64 a0_1) := (kC BK106.out 1).trans rfl; have hfz8_0 := kF BK106.out 0; have hfz8_1 := kF BK106.out 1))
    go_ret
    exact ⟨by first | rfl | (simp [errW_none, errW_some] <;> rfl) | (simp [*, errW_none, errW_some] <;> rfl), bl⟩
  ·rw [if_neg c3] at H
   have c3b0 : decide (a0_0 < 32768) = false := decide_eq_false c3
   clear c3
   obtain rfl := Option.some.inj H
   go_enter Try.func23, Try.ntmps23
   go_wp2_with (first | ((with_reducible refine gate_dst (N := 1) rfl ?_); refine box_event ?hg (N := 1) ?hd (cs := #[.int .i64 a0_0, .int .i64 a0_1]) (t := 40) ?hr ?_; (case hd => rfl); (case hg => rfl); (case hr => first | (go_simp; done) | (go_simp; rfl)); intro gb106 hg w9 hbox hb; have n0_ := aM (bS (bl) hb); have n1_ := aM (hbox); have n2_ := aM ((by rw [hg]; exact (below_size (bl)) : w.heap.size ≤ gb106)); have n3_ := aM ((by rw [hg]; exact (below_size (bl)) : w.heap.size ≤ gb106)); clear HB; have HB := n0_; have BK106 := n1_; have GW106 := n2_; have GE106 := n3_; clear n0_ n1_ n2_ n3_ hb hbox hg; have hcz10_0 : w9.cell? ⟨gb106, 0, none⟩ = some (.int .i64 a0_0) := (kC BK106.out 0).trans rfl; have hcz10_1 : w9.cell? ⟨gb106, 1, none⟩ = some (.int .i64 a0_1) := (kC BK106.out 1).trans rfl; have hfz10_0 := kF BK106.out 0; have hfz10_1 := kF BK106.out 1))
   go_ret
   exact ⟨by first | rfl | (simp [errW_none, errW_some] <;> rfl) | (simp [*, errW_none, errW_some] <;> rfl), bl⟩
 ·rw [if_neg c2] at H
  have c2b0 : decide (0 ≤ a0_0) = false := decide_eq_false c2
  clear c2
  obtain rfl := Option.some.inj H
  go_enter Try.func23, Try.ntmps23
  go_wp2_with (first | ((with_reducible refine gate_dst (N := 1) rfl ?_); refine box_event ?hg (N := 1) ?hd (cs := #[.int .i64 a0_0, .int .i64 a0_1]) (t := 40) ?hr ?_; (case hd => rfl); (case hg => rfl); (case hr => first | (go_simp; done) | (go_simp; rfl)); intro gb106 hg w11 hbox hb; have n0_ := aM (bS (bl) hb); have n1_ := aM (hbox); have n2_ := aM ((by rw [hg]; exact (below_size (bl)) : w.heap.size ≤ gb106)); have n3_ := aM ((by rw [hg]; exact (below_size (bl)) : w.heap.size ≤ gb106)); clear HB; have HB := n0_; have BK106 := n1_; have GW106 := n2_; have GE106 := n3_; clear n0_ n1_ n2_ n3_ hb hbox hg; have hcz12_0 : w11.cell? ⟨gb106, 0, none⟩ = some (.int .i64 a0_0) := (kC BK106.out 0).trans rfl; have hcz12_1 : w11.cell? ⟨gb106, 1, none⟩ = some (.int .i64 a0_1) := (kC BK106.out 1).trans rfl; have hfz12_0 := kF BK106.out 0; have hfz12_1 := kF BK106.out 1))
  go_ret
  exact ⟨by first | rfl | (simp [errW_none, errW_some] <;> rfl) | (simp [*, errW_none, errW_some] <;> rfl), bl⟩
-- NOT PRINTED: function 24 (api_Point_24)
theorem eqG40 (d : Nat) (w : World) (x0 y0 : Int) (x1 y1 : Int) :
  (Op.equalIn (d + 2) 40 (.agg #[.int .i64 x0, .int .i64 x1]) (.agg #[.int .i64 y0, .int .i64 y1])).run Try.prog w = .ok (x0 == y0 && (x1 == y1)) w := by
 refine eqA_of Try.underlying40 (by kernel_rfl) ?_
 refine eqf_cons (by rfl) (by go_simp; rfl) (by go_simp; rfl) (by go_simp) ?_
 exact eqf_last (by rfl) (by go_simp; rfl) (by go_simp; rfl) (by go_simp)
def ddGo40 (q : S40 → S40 → Bool) : S40 → List S40 → List S40
 | _, [] => []
 | p, y :: l => if q y p = true then ddGo40 q y l else y :: ddGo40 q y l
def dd40 (q : S40 → S40 → Bool) : List S40 → List S40
 | [] => []
 | x :: l => x :: ddGo40 q x l
theorem ddGo_snoc40 (q : S40 → S40 → Bool) (z : S40) : ∀ (l : List S40) (p y : S40), ddGo40 q p (l ++ [y]) = ddGo40 q p l ++ (if q y ((p :: l).getLast (by simp)) = true then [] else [y])
 | [], p, y => by
  simp only [List.nil_append, ddGo40, List.getLast_singleton]
  first | rfl | (split <;> rfl)
 | x :: l, p, y => by
  have ih := ddGo_snoc40 q z l x y
  simp only [List.cons_append, ddGo40]
  rw [ih]
  have e : (p :: x :: l).getLast (by simp) = (x :: l).getLast (by simp) := rfl
  rw [e]
  by_cases h : q x p = true
  ·rw [if_pos h, if_pos h]
  ·rw [if_neg h, if_neg h, List.cons_append]
theorem dd_snoc40 (q : S40 → S40 → Bool) (l : List S40) (j : Nat) (h0 : 0 < j) (hj : j < l.length) : dd40 q (l.take (j + 1)) = dd40 q (l.take j) ++ (if q l[j] l[j - 1] = true then [] else [l[j]]) := by
 rw [List.take_succ_eq_append_getElem hj]
 cases l with
 | nil => simp at hj
 | cons x l =>
  obtain ⟨i, rfl⟩ : ∃ i, j = i + 1 := ⟨j - 1, by omega⟩
  simp only [List.take_succ_cons, List.cons_append, dd40]
  rw [ddGo_snoc40 q x]
  have e : (x :: l.take i).getLast (by simp) = (x :: l)[i] := by
   rw [List.getLast_eq_getElem]
   simp only [List.length_cons, List.length_take]
   have hm : min i l.length = i := by simp at hj; omega
   simp only [hm, Nat.add_sub_cancel]
   cases i with
   | zero => rfl
   | succ i => simp
  rw [e]
  rfl
structure Cmpd40 (q : S40 → S40 → Bool) (l : List S40) (jj kk : Nat) (cur : List S40) : Prop where
 len : cur.length = l.length
 le : jj ≤ l.length
 ile : kk < jj
 kept : cur.take kk = dd40 q (l.take jj)
 rest : cur.drop (jj - 1) = l.drop (jj - 1)
theorem Cmpd40.get {q : S40 → S40 → Bool} {l cur : List S40} {jj kk : Nat} (h : Cmpd40 q l jj kk cur) (i : Nat) (hi : jj - 1 ≤ i) (hl : i < l.length) (z : S40) : cur.getD i z = l[i] := by
 have h1 := congrArg (fun t => t[i - (jj - 1)]?) h.rest
 simp only [List.getElem?_drop] at h1
 rw [show jj - 1 + (i - (jj - 1)) = i by omega] at h1
 rw [List.getD_eq_getElem?_getD, h1, List.getElem?_eq_getElem hl]
 rfl
theorem Cmpd40.step_yes {q : S40 → S40 → Bool} {l cur : List S40} {jj kk : Nat} (h : Cmpd40 q l jj kk cur) (hj : jj < l.length) (hp : q l[jj] l[jj - 1] = true) : Cmpd40 q l (jj + 1) kk cur where
 len := h.len
 le := hj
 ile := by have := h.ile; omega
 kept := by rw [dd_snoc40 q l jj (by have := h.ile; omega) hj, if_pos hp, List.append_nil]; exact h.kept
 rest := by
  have h0 := h.ile
  have := congrArg (List.drop 1) h.rest
  rw [List.drop_drop, List.drop_drop, show jj - 1 + 1 = jj + 1 - 1 by omega] at this
  exact this
theorem Cmpd40.step_no {q : S40 → S40 → Bool} {l cur : List S40} {jj kk : Nat} (h : Cmpd40 q l jj kk cur) (hj : jj < l.length) (hp : q l[jj] l[jj - 1] = false) : Cmpd40 q l (jj + 1) (kk + 1) (cur.set kk l[jj]) where
 len := by rw [List.length_set]; exact h.len
 le := hj
 ile := by have := h.ile; omega
 kept := by
  have h0 := h.ile
  have hi : kk < cur.length := by rw [h.len]; omega
  rw [dd_snoc40 q l jj (by omega) hj, if_neg (by rw [hp]; exact Bool.false_ne_true), ← h.kept, List.take_succ_eq_append_getElem (by rw [List.length_set]; exact hi), List.getElem_set_self, List.take_set_of_le (Nat.le_refl _)]
 rest := by
  have h0 := h.ile
  rw [List.drop_set_of_lt (by omega)]
  have := congrArg (List.drop 1) h.rest
  rw [List.drop_drop, List.drop_drop, show jj - 1 + 1 = jj + 1 - 1 by omega] at this
  exact this
theorem Cmpd40.done {q : S40 → S40 → Bool} {l cur : List S40} {kk : Nat} (h : Cmpd40 q l l.length kk cur) : cur.take kk = dd40 q l ∧ kk = (dd40 q l).length := by
 have h1 := h.kept
 rw [List.take_length] at h1
 refine ⟨h1, ?_⟩
 rw [← h1, List.length_take, h.len]
 have := h.ile
 omega
theorem dd_pre40 (q : S40 → S40 → Bool) (l : List S40) : ∀ j, j ≤ l.length → (∀ i, 0 < i → (hi : i < j) → (hl : i < l.length) → q l[i] l[i - 1] = false) → dd40 q (l.take j) = l.take j
 | 0, _, _ => rfl
 | 1, hj, _ => by
  cases l with
  | nil => rfl
  | cons x l => rfl
 | j + 2, hj, h => by
  rw [dd_snoc40 q l (j + 1) (by omega) (by omega), if_neg (by rw [h (j + 1) (by omega) (by omega) (by omega)]; exact Bool.false_ne_true), dd_pre40 q l (j + 1) (by omega) (fun i h0 h1 h2 => h i h0 (by omega) h2), List.take_succ_eq_append_getElem (show j + 1 < l.length by omega)]
theorem Cmpd40.start {q : S40 → S40 → Bool} {l : List S40} {k : Nat} (h0 : 0 < k) (hk : k < l.length) (hp : q l[k] l[k - 1] = true) (hb : ∀ i, 0 < i → (hi : i < k) → (hl : i < l.length) → q l[i] l[i - 1] = false) : Cmpd40 q l (k + 1) k l where
 len := rfl
 le := hk
 ile := by omega
 kept := by rw [dd_snoc40 q l k h0 hk, if_pos hp, List.append_nil, dd_pre40 q l k (by omega) hb]
 rest := rfl
attribute [local go_sem high] eqG40
theorem zv40 (w : World) : (zeroValue 40).run Try.prog w = .ok ((.agg #[(.int .i64 0), (.int .i64 0)])) w := by
 have h := info40
 cases hq : Try.prog.info? 40 with
 | none => rw [hq] at h; cases h
 | some i =>
  rw [hq] at h
  simp only [Option.map_some, Option.some.injEq, Prod.mk.injEq] at h
  simp [zeroValue, typeInfo, hq, h.1]
def eqs40 (x y : S40) : Bool := (x.f0 == y.f0 && (x.f1 == y.f1))
set_option maxHeartbeats 4000000 in
set_option maxRecDepth 100000 in
theorem cp26 (base : Nat) (A : Option Addr) (c : Nat) (l : List S40) (w0 w : World) (P0_ : Nat → Prop)
  (HO : Kd.R k40 40 w base P0_ (.slice A l.length c) l) (hb0 : Below base w0 w) (hbase : base ≤ w.heap.size) :
  Calls Try.prog 26 #[.slice A l.length c] w fun e w' => ∃ v, e = .returned v ∧ Kd.R k40 40 w' base P0_ v (dd40 eqs40 l) ∧ Below base w0 w' ∧ w.grownBy w' (Value.slice A l.length c).ownBlock := by
 have hreads := rR HO
 have hbig : l.length ≤ 9223372036854775807 := hreads.2.2.2.1
 have hO := aM HO
 have HB0 := aM hb0
 clear hreads HO hb0
 by_cases hs : l.length < 2
 ·have hdd : dd40 eqs40 l = l := by
   have := dd_pre40 eqs40 l l.length (Nat.le_refl _) (fun i h0 h1 h2 => by omega)
   rwa [List.take_length] at this
  rw [hdd]
  clear hdd
  have hsI : decide ((l.length : Int) < 2) = true := decide_eq_true (by omega)
  have hsI2 : (l.length : Int) < 2 := by omega
  go_enter Try.func26, Try.ntmps26
  go_wp2
  go_ret
  exact ⟨_, rfl, hO.out, HB0.out, World.grownBy.refl w _⟩
 ·have hsI : ¬ ((l.length : Int) < 2) := by omega
  obtain ⟨ga, rfl⟩ := R_head hO.out (by omega)
  go_enter Try.func26, Try.ntmps26
  go_wp2
  have mixed : Try.prog.follows Departure.mixedOrders = true := by kernel_rfl
  go_loopg [3] l.length (fun gg v3 wr => ∃ m : Nat, m + 1 ≤ l.length ∧ l.length - (m + 1) ≤ gg ∧ v3 = .int .i64 ((m : Int) + 1) ∧ Aside0 (Below w.heap.size w wr) ∧ Aside0 (∀ i, 0 < i → (hi : i < m + 1) → (hl : i < l.length) → eqs40 l[i] l[i - 1] = false))
  case atStart => exact ⟨0, by omega, by omega, by go_num, ⟨Below.refl _ _⟩, ⟨fun i h0 h1 h2 => by omega⟩⟩
  case round =>
   obtain ⟨m, hml, hgg, rfl, HB, HP⟩ := hrel
   by_cases hlt : m + 1 < l.length
   ·have hltI : (m : Int) + 1 < (l.length : Int) := by omega
    have HC := Kd.C_below (rR hO.out).2.2 HB.out
    obtain ⟨ad, e0, hx0, hx1⟩ := at_T40 HC (m : Int) (by omega) (by omega)
    obtain ⟨ad', e0', hy0, hy1⟩ := at_T40 HC ((m + 1 : Nat) : Int) (by omega) (by omega)
    cases e0; cases e0'
    have hy : rd_T40 l ((m + 1 : Nat) : Int) = l[m + 1] := by unfold rd_T40; rw [Int.toNat_natCast, List.getD_eq_getElem?_getD, List.getElem?_eq_getElem hlt]; rfl
    have hx : rd_T40 l (m : Int) = l[m] := by unfold rd_T40; rw [Int.toNat_natCast, List.getD_eq_getElem?_getD, List.getElem?_eq_getElem (show m < l.length by omega)]; rfl
    rw [hx, Int.toNat_natCast, Addr.add_lit, Nat.zero_add] at hx0 hx1
    rw [hy, Int.toNat_natCast, Addr.add_lit, Nat.zero_add] at hy0 hy1
    clear hx hy
    have hw1 : IntKind.i64.wrap ((m : Int) + 1 - 1) = (m : Int) := by rw [IntKind.wrap_i64]; omega
    have hw2 : (m : Int) + 1 - 1 = (m : Int) := by omega
    have ht1 : ((m : Int) + 1).toNat = m + 1 := by omega
    have hb1 : (0 : Int) ≤ (m : Int) + 1 := by omega
    have hb2 : (m : Int) < (l.length : Int) := by omega
    have hb3 : (0 : Int) ≤ (m : Int) := by omega
    have HPY := aM (fun h : eqs40 l[m + 1] l[m] = true => Cmpd40.start (q := eqs40) (k := m + 1) (by omega) hlt h HP.out)
    have HPN := aM (fun (h : eqs40 l[m + 1] l[m] = false) i (h0 : 0 < i) (hi : i < m + 1 + 1) (hl : i < l.length) => (show eqs40 l[i] l[i - 1] = false from by
     by_cases e : i = m + 1
     ·subst e; exact h
     ·exact HP.out i h0 (by omega) hl))
    clear HP HC
    generalize l[m + 1] = y at hy0 hy1 HPY HPN
    generalize l[m] = x at hx0 hx1 HPY HPN
    have hQ : ∀ b, eqs40 y x = b → eqs40 y x = b := fun _ h => h
    cases hq : eqs40 y x with
    | true =>
     have HS := aM (HPY.out hq)
     clear HPY HPN hQ
     unfold eqs40 at hq
     have hcap := R_cap hO.out
     have hcm : ¬ (c = m + 1) := by omega
     have hcm2 : m + 1 ≤ l.length := by omega
     have HO1 := aM (rB hO.out HB.out)
     have HB1 := aM (HB0.out.trans (HB.out.mono hbase))
     have HG1 := aM (grown_of_below HB.out (Value.slice (some ⟨ga, 0, none⟩) l.length c).ownBlock)
     clear HB hO HB0
     go_wp2
     go_region
     go_wp2
     clear hq hx0 hx1 hy0 hy1 hw1 hw2 ht1 hb1 hb2 hb3 hltI
     have HO1' := aM (show Kd.R k40 40 wr.drew base P0_ (.slice (some ⟨ga, 0, none⟩) l.length c) l from rB HO1.out (bD (Below.refl _ _)))
     have HB1' := aM (bD HB1.out)
     have HG1' := aM (HG1.out.trans (grown_of_below (bD (Below.refl wr.heap.size wr)) _))
     clear HO1 HB1 HG1
     go_loopg [3, 5] l.length (fun gg v3 v5 wr => ∃ (n kk : Nat) (cur : List S40), m + 1 + n + 1 ≤ l.length ∧ l.length - (m + 1 + n + 1) ≤ gg ∧ v3 = .int .i64 kk ∧ v5 = .int .i64 ((n : Int) + 1) ∧ Aside0 (Cmpd40 eqs40 l (m + 1 + n + 1) kk cur) ∧ Aside0 (Kd.R k40 40 wr base P0_ (.slice (some ⟨ga, 0, none⟩) l.length c) cur) ∧ Aside0 (Below base w0 wr) ∧ Aside0 (w.grownBy wr (Value.slice (some ⟨ga, 0, none⟩) l.length c).ownBlock))
     case atStart => exact ⟨0, m + 1, l, by omega, by omega, by go_num, by go_num, HS, HO1', HB1', HG1'⟩
     case round =>
      clear HO1' HB1' HG1' HS
      obtain ⟨n, kk, cur, hnl, hgg2, rfl, rfl, HD, HO, HB, HG⟩ := hrel
      have hkk := HD.out.ile
      have hlen := HD.out.len
      by_cases hlt2 : m + 1 + n + 1 < l.length
      ·have hltJ : (n : Int) + 1 < ((l.length - (m + 1) : Nat) : Int) := by omega
       have HC := (rR HO.out).2.2
       obtain ⟨ad, e0, hx0, hx1⟩ := at_T40 HC ((m + 1 + n : Nat) : Int) (by omega) (by omega)
       obtain ⟨ad', e0', hy0, hy1⟩ := at_T40 HC ((m + 1 + n + 1 : Nat) : Int) (by omega) (by omega)
       cases e0; cases e0'
       have hx : rd_T40 cur ((m + 1 + n : Nat) : Int) = l[m + 1 + n] := by unfold rd_T40; rw [Int.toNat_natCast]; exact HD.out.get (m + 1 + n) (by omega) (by omega) z40
       have hy : rd_T40 cur ((m + 1 + n + 1 : Nat) : Int) = l[m + 1 + n + 1] := by unfold rd_T40; rw [Int.toNat_natCast]; exact HD.out.get (m + 1 + n + 1) (by omega) (by omega) z40
       rw [hx, Int.toNat_natCast, Addr.add_lit, Nat.zero_add, Nat.add_mul (m + 1) n] at hx0 hx1
       rw [hy, Int.toNat_natCast, Addr.add_lit, Nat.zero_add] at hy0 hy1
       clear hx hy HC
       have hw1 : IntKind.i64.wrap ((n : Int) + 1 - 1) = (n : Int) := by rw [IntKind.wrap_i64]; omega
       have hw2 : (n : Int) + 1 - 1 = (n : Int) := by omega
       have ht1 : ((n : Int) + 1).toNat = n + 1 := by omega
       have hb1 : (0 : Int) ≤ (n : Int) + 1 := by omega
       have hb2 : (n : Int) < ((l.length - (m + 1) : Nat) : Int) := by omega
       have hb3 : (0 : Int) ≤ (n : Int) := by omega
       have hkI : (kk : Int) < (l.length : Int) := by omega
       have HDY := aM (fun h : eqs40 l[m + 1 + n + 1] l[m + 1 + n] = true => HD.out.step_yes hlt2 h)
       have HDN := aM (fun h : eqs40 l[m + 1 + n + 1] l[m + 1 + n] = false => HD.out.step_no hlt2 h)
       clear HD
       generalize l[m + 1 + n + 1] = y at hy0 hy1 HDY HDN
       generalize l[m + 1 + n] = x at hx0 hx1 HDY HDN
       rw [Nat.add_assoc (m + 1) n 1, Nat.add_mul (m + 1) (n + 1)] at hy0 hy1
       cases hq : eqs40 y x with
       | true =>
        have HS := aM (HDY.out hq)
        clear HDY HDN
        unfold eqs40 at hq
        go_wp2
        go_region
        go_wp2
        go_roundg (l.length - (m + 1 + n + 1 + 1))
        case measure => omega
        case rel => exact ⟨n + 1, kk, cur, by omega, by omega, by go_num, by go_num, HS, ⟨rB HO.out (bD (Below.refl _ _))⟩, ⟨bD HB.out⟩, ⟨HG.out.trans (grown_of_below (bD (Below.refl wr.heap.size wr)) _)⟩⟩
       | false =>
        have HS := aM (HDN.out hq)
        clear HDY HDN
        unfold eqs40 at hq
        have HO2 := aM (show Kd.R k40 40 wr.drew base P0_ (.slice (some ⟨ga, 0, none⟩) l.length c) cur from rB HO.out (bD (Below.refl _ _)))
        have HB2 := aM (bD HB.out)
        have HG2 := aM (HG.out.trans (grown_of_below (bD (Below.refl wr.heap.size wr)) (Value.slice (some ⟨ga, 0, none⟩) l.length c).ownBlock))
        clear HO HB HG
        go_wp2
        go_region
        clear hq hx0 hx1
        go_wp2_with ((with_reducible refine gate_ (.store 40 (.tmp 51) (.tmp 50)) rfl ?_); obtain ⟨ad2, c2, he2, hc2, _, hcc2⟩ := Kd.C_get (rR HO2.out).2.2 z40 (kk : Int) (by omega) (by omega); cases he2; refine Kd.R_store k40 (w0 := w0) base rfl rfl 40 (.tmp 51) (.tmp 50) rfl 40 (o' := kk * 2) (kk : Int) 0 cur y (.agg #[.int .i64 y.f0, .int .i64 y.f1]) [.int .i64 y.f0, .int .i64 y.f1] c2 P0_ (fun _ => False) rfl rfl rfl rfl (by kernel_rfl) (by intro u hu; simp at hu; rcases hu with rfl | rfl <;> rfl) HO2.out (by omega) hkI hc2 (fun j u hu => ?cc) (Nat.le_refl 2) ?mm (fun k hk => hk.elim) HB2.out ?_; (case cc => have := hcc2 j u hu; rw [Addr.add_lit, Nat.zero_add] at this; exact this); (case mm => have hl2 : c2.length = 2 := hc2; rw [List.take_zero, List.nil_append, List.drop_eq_nil_of_le (by rw [hl2]; exact Nat.le_refl 2), List.append_nil]; exact k40_mkM _ _ _ y); intro w3 ho3 hb3 hg3; have HO3 := aM ho3; have HB3 := aM hb3; have HG3 := aM (HG2.out.trans hg3); clear ho3 hb3 hg3)
        go_roundg (l.length - (m + 1 + n + 1 + 1))
        case measure => omega
        case rel => exact ⟨n + 1, kk + 1, cur.set kk y, by omega, by omega, by go_num, by go_num, HS, HO3, HB3, HG3⟩
      ·have hend : m + 1 + n + 1 = l.length := by omega
       have hd := HD.out
       rw [hend] at hd
       obtain ⟨hd1, hd2⟩ := hd.done
       have hge : ¬ ((n : Int) + 1 < ((l.length - (m + 1) : Nat) : Int)) := by omega
       have hkc : kk < c := by omega
       have hkn : (kk : Int) ≤ (l.length : Int) := by omega
       have hkl : kk < l.length := by omega
       clear HD hd
       have HD1 := aM hd1
       have HD2 := aM hd2
       have HLN := aM hlen
       clear hd1 hd2 hlen
       go_wp2
       obtain ⟨w2, hrun, ho2, hg2⟩ := R_clear_run (P := Try.prog) k40 base 40 26 0 Try.underlying26 (.agg #[(.int .i64 0), (.int .i64 0)]) zv40 rfl (by decide) z40 (.slice (some ⟨ga, 0, none⟩) l.length c) cur kk (l.length - kk) ga (c - kk) P0_ (k40_mkM _ _ _ z40) HO.out (by rw [HLN.out]; omega) rfl
       have HO2 := aM ho2
       have HG2 := aM hg2
       clear ho2 hg2
       have hrun' : (Builtin.clear_ #[26] 0 #[Value.slice (some { block := ga, off := kk * 2 }) (l.length - kk) (c - kk)]).run Try.prog wr = .ok (.tuple #[]) w2 := hrun
       rw [hrun']
       simp only [Result.andThen_ok, Oper.upon_value]
       clear hrun hrun'
       go_wp2
       go_ret
       have e1 : (cur.take kk ++ (List.replicate (l.length - kk) z40 ++ cur.drop (kk + (l.length - kk)))).take kk = dd40 eqs40 l := by
        rw [List.take_append_of_le_length (by rw [List.length_take, HLN.out]; omega), List.take_take, Nat.min_self]
        exact HD1.out
       have ho3 := Kd.R_take (m := kk) HO2.out (by simp [HLN.out]; omega)
       rw [e1] at ho3
       exact ⟨_, rfl, ho3, HB.out.grown HG2.out (by have := HG.out.size; omega) (fun k hk => own_base (Kd.R_own HO.out).choose_spec k hk), HG.out.trans HG2.out⟩
    | false =>
     have HP := aM (HPN.out hq)
     clear HPY HPN hQ
     unfold eqs40 at hq
     go_wp2
     go_region
     go_wp2
     go_roundg (l.length - (m + 1 + 1))
     case measure => omega
     case rel => exact ⟨m + 1, by omega, by omega, by go_num, ⟨by repeat (first | exact HB.out | apply bN | apply bD)⟩, HP⟩
   ·have hml2 : m + 1 = l.length := by omega
    have hdd : dd40 eqs40 l = l := by
     have := dd_pre40 eqs40 l l.length (Nat.le_refl _) (fun i h0 h1 h2 => HP.out i h0 (by omega) h2)
     rwa [List.take_length] at this
    have hge : ¬ ((m : Int) + 1 < (l.length : Int)) := by omega
    have HDD := aM hdd
    clear hdd
    go_wp2
    go_ret
    rw [HDD.out]
    exact ⟨_, rfl, rB hO.out HB.out, HB0.out.trans (HB.out.mono hbase), grown_of_below HB.out _⟩
def api_Point_26.f (l0 : List S40) : Option (List S40) := some (dd40 eqs40 l0)
theorem api_Point_26.calls (P0_ : Nat → Prop) (u9000_ : Value) (l0 : List (S40)) (r : List (S40)) (w0 w : World) (hB : Below w0.heap.size w0 w) (ho0 : Kd.R k40 40 w w0.heap.size P0_ u9000_ l0) (h : api_Point_26.f l0 = some r) :
  Calls Try.prog 26 #[u9000_] w fun e w' => ∃ v0_ : Value, e = .returned (v0_) ∧ Kd.R k40 40 w' w0.heap.size (fun k_ => (P0_ k_ ∨ w.heap.size ≤ k_)) v0_ r ∧ Below w0.heap.size w0 w' ∧ Kept w w' (fun k_ => P0_ k_) := by
 obtain rfl := Option.some.inj h
 obtain ⟨A, c, rfl⟩ := Kd.R_slice ho0
 have hP := ho0.1
 refine (cp26 w0.heap.size A c l0 w0 w P0_ ho0 hB hB.size).mono ?_
 rintro e w' ⟨v, rfl, h1, h2, hg⟩
 exact ⟨v, rfl, rM h1 (fun _ hk => .inl hk), h2, hg.size, fun i hi hne => hg.block i hi (fun he => hne (hP i he.symm))⟩
-- NOT PRINTED: function 43 (api_Point_43)
instance inhS40 : Inhabited S40 := ⟨z40⟩
def enc40 (x : S40) : List Value := [.int .i64 x.f0, .int .i64 x.f1]
def cmpBy25 (x y : S40) : Int := if x.f0 = y.f0 then if x.f1 = y.f1 then 0 else (if x.f1 < y.f1 then -1 else 1) else (if x.f0 < y.f0 then -1 else 1)
theorem ltBy25 (x y : S40) : ltOf cmpBy25 x y = true ↔ (x.f0 < y.f0 ∨ x.f0 = y.f0 ∧ (x.f1 < y.f1)) := by
 unfold ltOf cmpBy25
 rw [decide_eq_true_iff]
 (repeat' split) <;> omega
theorem swoBy25 : Go.Sort.SWO (ltOf cmpBy25) where
 irrefl x := by rw [Bool.eq_false_iff]; intro h; rw [ltBy25] at h; omega
 trans x y z h1 h2 := by rw [ltBy25] at *; omega
 ntrans x y z h1 h2 := by
  rw [Bool.eq_false_iff] at *
  intro h3
  rw [Ne, ltBy25] at h1 h2
  rw [ltBy25] at h3
  omega
attribute [local go_sem high] eqG40
set_option maxHeartbeats 4000000 in
set_option maxRecDepth 100000 in
theorem closureBy25 (x y : S40) (W : World) : Calls Try.prog 25 (#[.agg (enc40 x).toArray, .agg (enc40 y).toArray] ++ #[]) W fun e w' => e = .returned (.int .i64 (cmpBy25 x y)) ∧ ∃ q os', w' = Go.Sort.grow (W.drewN q) os' := by
 obtain ⟨a, b⟩ := x
 obtain ⟨a', b'⟩ := y
 show Calls Try.prog 25 #[.agg #[.int .i64 a, .int .i64 b], .agg #[.int .i64 a', .int .i64 b']] W _
 unfold cmpBy25
 dsimp only
 by_cases ha : a = a'
 ·subst ha
  rw [if_pos rfl]
  by_cases hb : b = b'
  ·subst hb
   rw [if_pos rfl]
   go_enter Try.func25, Try.ntmps25
   go_wp2
   go_ret
   exact ⟨rfl, 0, _, by simp only [Go.Sort.alloc_eq_grow, Go.Sort.grow_grow]; rfl⟩
  ·rw [if_neg hb]
   have eb : (b == b') = false := beq_eq_false_iff_ne.mpr hb
   by_cases hl : b < b'
   ·rw [if_pos hl]
    have hd : decide (b < b') = true := decide_eq_true hl
    go_enter Try.func25, Try.ntmps25
    go_wp2
    go_ret
    exact ⟨rfl, 0, _, by simp only [Go.Sort.alloc_eq_grow, Go.Sort.grow_grow]; rfl⟩
   ·rw [if_neg hl]
    have hd : decide (b < b') = false := decide_eq_false hl
    go_enter Try.func25, Try.ntmps25
    go_wp2
    go_ret
    exact ⟨rfl, 0, _, by simp only [Go.Sort.alloc_eq_grow, Go.Sort.grow_grow]; rfl⟩
 ·rw [if_neg ha]
  have ea : (a == a') = false := beq_eq_false_iff_ne.mpr ha
  by_cases hl : a < a'
  ·rw [if_pos hl]
   have hd : decide (a < a') = true := decide_eq_true hl
   go_enter Try.func25, Try.ntmps25
   go_wp2
   go_ret
   exact ⟨rfl, 0, _, by simp only [Go.Sort.alloc_eq_grow, Go.Sort.grow_grow]; rfl⟩
  ·rw [if_neg hl]
   have hd : decide (a < a') = false := decide_eq_false hl
   go_enter Try.func25, Try.ntmps25
   go_wp2
   go_ret
   exact ⟨rfl, 0, _, by simp only [Go.Sort.alloc_eq_grow, Go.Sort.grow_grow]; rfl⟩
def api_Point_by_generalize_order.f (l0 : List (S40)) : Option (List (S40)) := if l0.length < 4611686018427387904 then some (Go.Sort.pdq (ltOf cmpBy25) l0.toArray 0 l0.length (Lib.bitLen l0.length) true true).toList else none
theorem api_Point_by_generalize_order.spec (l0 r : List (S40)) (h : api_Point_by_generalize_order.f l0 = some r) : r.Perm l0 ∧ ∀ i j, i < j → j < r.length → ltOf cmpBy25 (r.getD j z40) (r.getD i z40) = false := by
 unfold api_Point_by_generalize_order.f at h
 split at h
 case isFalse => cases h
 obtain rfl := Option.some.inj h
 obtain ⟨⟨hs, _, hp⟩, ho⟩ := Go.Sort.pdq_sorts (ltOf cmpBy25) swoBy25 l0.toArray 0 l0.length (Lib.bitLen l0.length) true true (Nat.zero_le _) (by simp) (Or.inl rfl)
 generalize Go.Sort.pdq (ltOf cmpBy25) l0.toArray 0 l0.length (Lib.bitLen l0.length) true true = d at hs hp ho ⊢
 have hsl : d.size = l0.length := by simpa using hs
 refine ⟨?_, fun i j hij hj => ?_⟩
 ·have e1 : d.extract 0 l0.length = d := by rw [← hsl]; exact Array.extract_size
  have e2 : l0.toArray.extract 0 l0.length = l0.toArray := by
   have : l0.length = l0.toArray.size := by simp
   rw [this]; exact Array.extract_size
  rw [e1, e2] at hp
  exact hp
 ·have hj' : j < d.size := by simpa using hj
  have h1 := ho i j (Nat.zero_le _) hij (by omega)
  rw [getElem!_pos d j hj', getElem!_pos d i (by omega)] at h1
  rw [List.getD_eq_getElem?_getD, List.getD_eq_getElem?_getD, List.getElem?_eq_getElem hj, List.getElem?_eq_getElem (show i < d.toList.length by omega)]
  simpa using h1
set_option maxHeartbeats 4000000 in
set_option maxRecDepth 100000 in
theorem api_Point_by_generalize_order.calls (P0_ : Nat → Prop) (u9000_ : Value) (l0 : List (S40)) (r : List (S40)) (w0 w : World) (hB : Below w0.heap.size w0 w) (ho0 : Kd.R k40 40 w w0.heap.size P0_ u9000_ l0) (h : api_Point_by_generalize_order.f l0 = some r) :
  Calls Try.prog 24 #[u9000_, .func (.func 25) #[] #[]] w fun e w' => e = .returned (.tuple #[]) ∧ Kd.R k40 40 w' w0.heap.size (fun k_ => (P0_ k_ ∨ w.heap.size ≤ k_)) u9000_ r ∧ Below w0.heap.size w0 w' ∧ Kept w w' (fun k_ => P0_ k_) := by
 have hperm := (api_Point_by_generalize_order.spec l0 r h).1
 unfold api_Point_by_generalize_order.f at h
 split at h
 case isFalse => cases h
 rename_i hsz
 obtain ⟨A, c, rfl⟩ := Kd.R_slice ho0
 rcases Nat.eq_zero_or_pos l0.length with h0 | h0
 ·obtain rfl : l0 = [] := List.eq_nil_of_length_eq_zero h0
  obtain rfl : r = [] := List.Perm.eq_nil hperm
  refine (AnyF.slices_SortFunc_none { Try.laid24 with } A c (.func (.func 25) #[] #[]) w).mono ?_
  rintro e w' ⟨rfl, rfl⟩
  exact ⟨rfl, rM ho0 (fun _ hk => .inl hk), hB, Nat.le_refl _, fun _ _ _ => rfl⟩
 ·obtain ⟨g, rfl⟩ := R_head ho0 h0
  obtain rfl := Option.some.inj h
  obtain ⟨hH, hblk⟩ := holds_of_R enc40 (fun _ => rfl) (by decide) (fun h => k40_open h) ho0
  have eg : ∀ args w, (callFunc 25 args).run Try.prog w = .ok (.enter 25 args) w := enters_of Try.func25 (by kernel_rfl) rfl
  have hcon := AnyQ.slices_SortFunc_eq Try.laid24 2 Try.isAgg40 Try.sizeOf40 enc40 (fun _ => rfl) (fun x v hv => by simp [enc40] at hv; rcases hv with rfl | rfl <;> rfl) cmpBy25 swoBy25 25 #[] g 0 c l0.toArray w eg (fun m os dk hs x y => closureBy25 x y _) hH hblk (by simpa using hsz)
  have e1 : l0.toArray.size = l0.length := by simp
  rw [e1] at hcon
  refine hcon.mono ?_
  rintro e w' ⟨rfl, n, os, rfl⟩
  have hd : (Go.Sort.pdq (ltOf cmpBy25) l0.toArray 0 l0.length (Lib.bitLen l0.length) true true).size = l0.length := by
   have := hperm.length_eq
   simpa using this
  have hR := R_sortWorldK enc40 (fun _ => rfl) (by decide) (fun w base ok x => k40_mkM w base ok x) ho0 n (Go.Sort.pdq (ltOf cmpBy25) l0.toArray 0 l0.length (Lib.bitLen l0.length) true true) os hd
  have hg := grown_sortWorldK enc40 k40.sz w g n (Go.Sort.pdq (ltOf cmpBy25) l0.toArray 0 l0.length (Lib.bitLen l0.length) true true) os
  have hP : P0_ g := ho0.1 g rfl
  obtain ⟨inner, hown⟩ := Kd.R_own ho0
  refine ⟨rfl, rM hR (fun _ hk => .inl hk), hB.grown hg hB.size (fun k hk => own_base hown k hk), hg.size, fun i hi hne => hg.block i hi (fun he => hne ?_)⟩
  injection he with he
  rw [he]; exact hP
end Go.Proofs.Ytpgbfjndgbfhnaa.PAll
