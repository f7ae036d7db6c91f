import Derived.Test.YtmejeiddlhjjmaaPNodingSplitsx0
import Derived.Test.YtmejeiddlhjjmaaPNodingSplitsx2
import Derived.Test.YtmejeiddlhjjmaaPNodingSplitsx13
namespace Go.Proofs.Ytmejeiddlhjjmaa.PNodingSplits
open Go.Proofs.YtmejeiddlhjjmaaG Go.Shelf Go.Lib
open Go.RowKit Go.Proofs.YtmejeiddlhjjmaaW.PrintWords Go.Proofs.YtmejeiddlhjjmaaW.PrintLast Go.Proofs.YtmejeiddlhjjmaaW.PrintMore
attribute [local go_sem] max2_int min2_int max_two min_two max_three min_three max_four min_four
set_option linter.unusedVariables false
set_option linter.unusedSimpArgs false
attribute [local go_sem high] eqA35
def mapmakerref20_Unique.l0 : Nat → List (S35) → List (S35) → Int → Option ((List (S35)))
 | 0, _, _, _ => none
 | k + 1, x3, x4, x5 => if x5 < (x3.length : Int) then (if x5 = 0 then (if 0 ≤ x5 then (if x4.length < 4398046511104 then (mapmakerref20_Unique.l0 k x3 (x4 ++ [(⟨(⟨(rd_T35 x3 x5).f0.f0, (rd_T35 x3 x5).f0.f1⟩ : S33), (⟨(rd_T35 x3 x5).f1.f0, (rd_T35 x3 x5).f1.f1⟩ : S33)⟩ : S35)]) (wrap64 (x5 + 1))) else (none)) else (none)) else (if 0 ≤ x5 then (if 0 ≤ (wrap64 (x5 - 1)) then (if (wrap64 (x5 - 1)) < (x3.length : Int) then (if ((!(((rd_T35 x3 x5).f0.f0) == ((rd_T35 x3 (wrap64 (x5 - 1))).f0.f0)) || (!(((rd_T35 x3 x5).f0.f1) == ((rd_T35 x3 (wrap64 (x5 - 1))).f0.f1)))) || ((!(((rd_T35 x3 x5).f1.f0) == ((rd_T35 x3 (wrap64 (x5 - 1))).f1.f0)) || (!(((rd_T35 x3 x5).f1.f1) == ((rd_T35 x3 (wrap64 (x5 - 1))).f1.f1)))))) = true then (if x4.length < 4398046511104 then (mapmakerref20_Unique.l0 k x3 (x4 ++ [(⟨(⟨(rd_T35 x3 x5).f0.f0, (rd_T35 x3 x5).f0.f1⟩ : S33), (⟨(rd_T35 x3 x5).f1.f0, (rd_T35 x3 x5).f1.f1⟩ : S33)⟩ : S35)]) (wrap64 (x5 + 1))) else (none)) else (mapmakerref20_Unique.l0 k x3 x4 (wrap64 (x5 + 1)))) else (none)) else (none)) else (none))) else (some x4)
def mapmakerref20_Unique.f (k : Nat) (l0 : List (S35)) : Option ((List (S35))) := (mapmakerref20_Sort.f k l0).bind fun t283 => (mapmakerref20_Unique.l0 k t283 ([] : List (S35)) 0)
theorem mapmakerref20_Unique.mono_l : ∀ k, (∀ y0 y1 y2, LeO (mapmakerref20_Unique.l0 k y0 y1 y2) (mapmakerref20_Unique.l0 (k + 1) y0 y1 y2))
 | 0 => fun _ _ _ r h => by simp [mapmakerref20_Unique.l0] at h
 | k + 1 => by
  have ih0 := mapmakerref20_Unique.mono_l k
  ·intro y0 y1 y2
   unfold mapmakerref20_Unique.l0
   repeat' first
   | (with_reducible exact ih0 _ _ _)
   | (with_reducible exact mapmakerref20_Sort.mono _ _)
   | (with_reducible exact LeO.refl _)
   | (with_reducible exact LeO.none _)
   | (with_reducible refine LeO.ite ?_ ?_)
   | (with_reducible refine LeO.bind ?_ (fun _ => ?_))
   | exact ih0 _ _ _
   | exact mapmakerref20_Sort.mono _ _
   | exact LeO.none _
   | refine LeO.ite ?_ ?_
   | refine LeO.bind ?_ (fun _ => ?_)
theorem mapmakerref20_Unique.mono : ∀ a0 k, LeO (mapmakerref20_Unique.f k a0) (mapmakerref20_Unique.f (k + 1) a0) := by
 intro a0 k
 have ih0 := mapmakerref20_Unique.mono_l k
 unfold mapmakerref20_Unique.f
 repeat' first
   | (with_reducible exact ih0 _ _ _)
   | (with_reducible exact mapmakerref20_Sort.mono _ _)
   | (with_reducible exact LeO.refl _)
   | (with_reducible exact LeO.none _)
   | (with_reducible refine LeO.ite ?_ ?_)
   | (with_reducible refine LeO.bind ?_ (fun _ => ?_))
   | exact ih0 _ _ _
   | exact mapmakerref20_Sort.mono _ _
   | exact LeO.none _
   | refine LeO.ite ?_ ?_
   | refine LeO.bind ?_ (fun _ => ?_)
set_option maxHeartbeats 8000000 in
set_option maxRecDepth 100000 in
theorem mapmakerref20_Unique.calls (k : Nat) (A0 : Option Addr) (c0 : Nat) (l0 : List (S35)) (r : List (S35)) (w : World) (hr0 : Kd.C k35 w A0 l0.length l0) (hc0 : l0.length ≤ c0) (h : mapmakerref20_Unique.f k l0 = some r) :
  Calls Try.prog 16 #[.slice A0 l0.length c0] w fun e w' => ∃ v0_ : Value, e = .returned (v0_) ∧ Kd.R k35 35 w' w.heap.size (fun _ => True) v0_ r ∧ Below w.heap.size w w' := by
 have hu35 := Try.underlying35
 have HR0 := aM hr0
 have HC0 := aM hc0
 clear hr0 hc0
 have HB := aM (Below.refl w.heap.size w)
 have H : ((mapmakerref20_Sort.f k l0).bind fun t283 => (mapmakerref20_Unique.l0 k t283 ([] : List (S35)) 0)) = some r := h
 clear h
 replace H := Option.bind_eq_some_iff.mp H
 obtain ⟨t283, A20, H⟩ := H
 try dsimp only at H
 have A2 := aM A20
 clear A20
 have H' := aM H
 clear H
 go_enter Try.func16, Try.ntmps16
 go_wp2_with (first | (go_at_call 14; (with_reducible refine (mapmakerref20_Sort.calls k _ _ l0 t283 _ ?side1 ?side2 A2.out).mono ?_); (case side1 => repeat (first | exact HR0.out | (with_reducible refine cA ?_ _) | (with_reducible refine cN ?_ _) | (with_reducible refine cD ?_))); (case side2 => exact HC0.out); rintro e w3 ⟨v284, rfl, ho0, hb⟩; have HO285 := aM (Kd.R_lower ho0 (below_size (bl))); replace HB := aM (bS (bl) hb); (try clear hb); (try clear hb2); (try clear hk); (try clear hi); (try clear ho0)))
 repeat (go_quiet (first | (go_at_call 14; (with_reducible refine (mapmakerref20_Sort.calls k _ _ l0 t283 _ ?side1 ?side2 A2.out).mono ?_); (case side1 => repeat (first | exact HR0.out | (with_reducible refine cA ?_ _) | (with_reducible refine cN ?_ _) | (with_reducible refine cD ?_))); (case side2 => exact HC0.out); rintro e w3 ⟨v284, rfl, ho0, hb⟩; have HO285 := aM (Kd.R_lower ho0 (below_size (bl))); replace HB := aM (bS (bl) hb); (try clear hb); (try clear hb2); (try clear hk); (try clear hi); (try clear ho0))); try go_wp2_with (first | (go_at_call 14; (with_reducible refine (mapmakerref20_Sort.calls k _ _ l0 t283 _ ?side1 ?side2 A2.out).mono ?_); (case side1 => repeat (first | exact HR0.out | (with_reducible refine cA ?_ _) | (with_reducible refine cN ?_ _) | (with_reducible refine cD ?_))); (case side2 => exact HC0.out); rintro e w3 ⟨v284, rfl, ho0, hb⟩; have HO285 := aM (Kd.R_lower ho0 (below_size (bl))); replace HB := aM (bS (bl) hb); (try clear hb); (try clear hb2); (try clear hk); (try clear hi); (try clear ho0))))
 go_loopg [4, 5] k (fun kq v4 v5 w' => ∃ (x4_1 : List (S35)) (x5_1 : Int), v5 = .int .i64 x5_1 ∧ Aside0 (mapmakerref20_Unique.l0 kq t283 x4_1 x5_1 = some r) ∧ Aside0 (kq ≤ k) ∧ Aside0 (Kd.R k35 35 w' w.heap.size (fun k_ => some k_ ≠ (v4 : Value).ownBlock) v284 t283) ∧ Aside0 (Kd.R k35 35 w' w.heap.size (fun k_ => some k_ ≠ (v284 : Value).ownBlock) v4 x4_1) ∧ Aside0 (Below w.heap.size w w'))
 case atStart => exact ⟨(([] : List (S35))), (0), (by first | rfl | (simp; done) | (simp [*]; done)), H', ⟨Nat.le_refl _⟩, ⟨by (with_reducible repeat (first | apply rA | apply rN | apply rD)); exact rM HO285.out (fun _ hk => (by simp [Value.ownBlock]))⟩, ⟨by first | exact Kd.R_nil _ _ _ _ _ | exact Kd.N_nil _ _ _ _ _ | exact Kd.V_nil _ _ _ _ _ | exact Kd.Q_nil _ _ _ _ _ | exact Kd.S_nil _ _ _ _ _⟩, ⟨bl⟩⟩
 case round =>
  clear H'
  try clear c1
  try clear p2
  obtain ⟨x4_1, x5_1, rfl, HA, HK1, HO_3, HO_4, HB⟩ := hrel
  cases gk with
  | zero => exact absurd HA.out (by simp [mapmakerref20_Unique.l0])
  | succ k1 =>
   have H := HA.out
   clear HA
   simp only [mapmakerref20_Unique.l0] at H
   by_cases c4 : x5_1 < (t283.length : Int)
   ·rw [if_pos c4] at H
    have c4b0 : decide (x5_1 < (t283.length : Int)) = true := decide_eq_true c4
    clear c4
    by_cases c5 : x5_1 = 0
    ·rw [if_pos c5] at H
     have c5b0 : (x5_1 == 0) = true := beq_iff_eq.mpr c5
     have c5b1 : (x5_1 != 0) = false := bne_eq_false_iff_eq.mpr c5
     clear c5
     by_cases c6 : 0 ≤ x5_1
     ·rw [if_pos c6] at H
      have c6b0 : decide (0 ≤ x5_1) = true := decide_eq_true c6
      clear c6
      by_cases c7 : x4_1.length < 4398046511104
      ·rw [if_pos c7] at H
       have LMc7 := aM c7
       clear c7
       obtain ⟨y287, hy287⟩ : ∃ y_ : List (S35), y_ = (x4_1 ++ [(⟨(⟨(rd_T35 t283 x5_1).f0.f0, (rd_T35 t283 x5_1).f0.f1⟩ : S33), (⟨(rd_T35 t283 x5_1).f1.f0, (rd_T35 t283 x5_1).f1.f1⟩ : S33)⟩ : S35)]) := ⟨_, rfl⟩
       replace H : (mapmakerref20_Unique.l0 k1 t283 y287 (wrap64 (x5_1 + 1))) = some r := by first | (rw [hy287]; with_reducible exact H) | (have H2_ := (Option.bind_some _ _).symm.trans H; rw [hy287]; with_reducible exact H2_) | (have H2_ := (Option.bind_some _ _).symm.trans H; with_reducible exact H2_) | with_reducible exact H | (rw [hy287]; exact H) | exact H
       have Ny287 := aM hy287
       clear hy287
       have H' := aM H
       clear H
       obtain ⟨Ao8, co8, eo8⟩ := Kd.R_slice HO_3.out
       subst eo8
       have p286 : 0 ≤ (x5_1 : Int) := of_decide_eq_true (by first | (with_reducible assumption) | assumption)
       have q286 : x5_1 < (t283.length : Int) := of_decide_eq_true (by first | (with_reducible assumption) | assumption)
       obtain ⟨ad286, e286, hx286_0, hx286_1, hx286_2, hx286_3⟩ := at_T35 (rR HO_3.out).2.2 x5_1 p286 q286
       cases e286
       replace p286 := eq_true p286
       replace q286 := eq_true q286
       go_wp2_with (first | ((with_reducible refine gate_builtin (b := .append) (xs := #[.tmp 28, .tmp 33]) rfl ?_); at_builtin; refine Kd.R_append k35 (w0 := w) w.heap.size rfl (.tmp 28) (.tmp 33) 23 35 (.agg #[(.int .i64 0), (.int .i64 0), (.int .i64 0), (.int .i64 0)]) 32 rfl Try.underlying23 info35 rfl (by decide) (by omega) u4 x4_1 (⟨(⟨(rd_T35 t283 x5_1).f0.f0, (rd_T35 t283 x5_1).f0.f1⟩ : S33), (⟨(rd_T35 t283 x5_1).f1.f0, (rd_T35 t283 x5_1).f1.f1⟩ : S33)⟩ : S35) [.int .i64 ((rd_T35 t283 x5_1).f0.f0), .int .i64 ((rd_T35 t283 x5_1).f0.f1), .int .i64 ((rd_T35 t283 x5_1).f1.f0), .int .i64 ((rd_T35 t283 x5_1).f1.f1)] (fun k_ => some k_ ≠ (.slice (some ad286) t283.length co8 : Value).ownBlock) (fun _ => False) rfl rfl ?aP (fun _ hk => hk.elim) ?aF ?aO ?aB ?aS ?aL ?_; (case aP => exact k35_mkM _ _ _ (⟨(⟨(rd_T35 t283 x5_1).f0.f0, (rd_T35 t283 x5_1).f0.f1⟩ : S33), (⟨(rd_T35 t283 x5_1).f1.f0, (rd_T35 t283 x5_1).f1.f1⟩ : S33)⟩ : S35)); (case aB => exact (bl)); (case aF => exact (fun k_ hk => Kd.fresh' (Kd.R_lt (rl HO_3)) k_ hk)); (case aO => exact (rl HO_4)); (case aS => exact (below_size (bl))); (case aL => have := LMc7.out; omega); intro v288 w9 ho hb hg hat; rw [← Ny287.out] at ho; have n0_ := aM (Kd.R_after (ok := (fun _ => True)) (by (with_reducible repeat (first | apply rA | apply rN | apply rD)); exact rM HO_3.out (fun _ hk => ⟨trivial, hk⟩)) hg hat); have n1_ := aM (hb); have n2_ := aM (ho); clear HO_3 HB HO_4; have HO_3 := n0_; have HB := n1_; have HO289 := n2_; clear n0_ n1_ n2_ ho hb hg hat))
       repeat (go_quiet (first | ((with_reducible refine gate_builtin (b := .append) (xs := #[.tmp 28, .tmp 33]) rfl ?_); at_builtin; refine Kd.R_append k35 (w0 := w) w.heap.size rfl (.tmp 28) (.tmp 33) 23 35 (.agg #[(.int .i64 0), (.int .i64 0), (.int .i64 0), (.int .i64 0)]) 32 rfl Try.underlying23 info35 rfl (by decide) (by omega) u4 x4_1 (⟨(⟨(rd_T35 t283 x5_1).f0.f0, (rd_T35 t283 x5_1).f0.f1⟩ : S33), (⟨(rd_T35 t283 x5_1).f1.f0, (rd_T35 t283 x5_1).f1.f1⟩ : S33)⟩ : S35) [.int .i64 ((rd_T35 t283 x5_1).f0.f0), .int .i64 ((rd_T35 t283 x5_1).f0.f1), .int .i64 ((rd_T35 t283 x5_1).f1.f0), .int .i64 ((rd_T35 t283 x5_1).f1.f1)] (fun k_ => some k_ ≠ (.slice (some ad286) t283.length co8 : Value).ownBlock) (fun _ => False) rfl rfl ?aP (fun _ hk => hk.elim) ?aF ?aO ?aB ?aS ?aL ?_; (case aP => exact k35_mkM _ _ _ (⟨(⟨(rd_T35 t283 x5_1).f0.f0, (rd_T35 t283 x5_1).f0.f1⟩ : S33), (⟨(rd_T35 t283 x5_1).f1.f0, (rd_T35 t283 x5_1).f1.f1⟩ : S33)⟩ : S35)); (case aB => exact (bl)); (case aF => exact (fun k_ hk => Kd.fresh' (Kd.R_lt (rl HO_3)) k_ hk)); (case aO => exact (rl HO_4)); (case aS => exact (below_size (bl))); (case aL => have := LMc7.out; omega); intro v288 w9 ho hb hg hat; rw [← Ny287.out] at ho; have n0_ := aM (Kd.R_after (ok := (fun _ => True)) (by (with_reducible repeat (first | apply rA | apply rN | apply rD)); exact rM HO_3.out (fun _ hk => ⟨trivial, hk⟩)) hg hat); have n1_ := aM (hb); have n2_ := aM (ho); clear HO_3 HB HO_4; have HO_3 := n0_; have HB := n1_; have HO289 := n2_; clear n0_ n1_ n2_ ho hb hg hat)); try go_wp2_with (first | ((with_reducible refine gate_builtin (b := .append) (xs := #[.tmp 28, .tmp 33]) rfl ?_); at_builtin; refine Kd.R_append k35 (w0 := w) w.heap.size rfl (.tmp 28) (.tmp 33) 23 35 (.agg #[(.int .i64 0), (.int .i64 0), (.int .i64 0), (.int .i64 0)]) 32 rfl Try.underlying23 info35 rfl (by decide) (by omega) u4 x4_1 (⟨(⟨(rd_T35 t283 x5_1).f0.f0, (rd_T35 t283 x5_1).f0.f1⟩ : S33), (⟨(rd_T35 t283 x5_1).f1.f0, (rd_T35 t283 x5_1).f1.f1⟩ : S33)⟩ : S35) [.int .i64 ((rd_T35 t283 x5_1).f0.f0), .int .i64 ((rd_T35 t283 x5_1).f0.f1), .int .i64 ((rd_T35 t283 x5_1).f1.f0), .int .i64 ((rd_T35 t283 x5_1).f1.f1)] (fun k_ => some k_ ≠ (.slice (some ad286) t283.length co8 : Value).ownBlock) (fun _ => False) rfl rfl ?aP (fun _ hk => hk.elim) ?aF ?aO ?aB ?aS ?aL ?_; (case aP => exact k35_mkM _ _ _ (⟨(⟨(rd_T35 t283 x5_1).f0.f0, (rd_T35 t283 x5_1).f0.f1⟩ : S33), (⟨(rd_T35 t283 x5_1).f1.f0, (rd_T35 t283 x5_1).f1.f1⟩ : S33)⟩ : S35)); (case aB => exact (bl)); (case aF => exact (fun k_ hk => Kd.fresh' (Kd.R_lt (rl HO_3)) k_ hk)); (case aO => exact (rl HO_4)); (case aS => exact (below_size (bl))); (case aL => have := LMc7.out; omega); intro v288 w9 ho hb hg hat; rw [← Ny287.out] at ho; have n0_ := aM (Kd.R_after (ok := (fun _ => True)) (by (with_reducible repeat (first | apply rA | apply rN | apply rD)); exact rM HO_3.out (fun _ hk => ⟨trivial, hk⟩)) hg hat); have n1_ := aM (hb); have n2_ := aM (ho); clear HO_3 HB HO_4; have HO_3 := n0_; have HB := n1_; have HO289 := n2_; clear n0_ n1_ n2_ ho hb hg hat)))
       go_roundg k1
       case measure => have := HK1.out; omega
       case rel => exact ⟨(y287), (wrap64 (x5_1 + 1)), (by first | rfl | (simp; done) | (simp [*]; done)), H', ⟨by have := HK1.out; omega⟩, ⟨by (with_reducible repeat (first | apply rA | apply rN | apply rD)); exact rM HO_3.out (fun _ hk => hk.2)⟩, ⟨by (with_reducible repeat (first | apply rA | apply rN | apply rD)); exact HO289.out⟩, ⟨bl⟩⟩
      ·rw [if_neg c7] at H
       exact absurd H (by simp)
     ·rw [if_neg c6] at H
      exact absurd H (by simp)
    ·rw [if_neg c5] at H
     have c5b0 : (x5_1 == 0) = false := beq_eq_false_iff_ne.mpr c5
     have c5b1 : (x5_1 != 0) = true := bne_iff_ne.mpr c5
     by_cases c10 : 0 ≤ x5_1
     ·rw [if_pos c10] at H
      have c10b0 : decide (0 ≤ x5_1) = true := decide_eq_true c10
      clear c10
      obtain ⟨ji11, hji11⟩ : ∃ j_ : Int, (wrap64 (x5_1 - 1)) = j_ := ⟨_, rfl⟩
      replace H : (if 0 ≤ (ji11) then (if (ji11) < (t283.length : Int) then (if ((!(((rd_T35 t283 x5_1).f0.f0) == ((rd_T35 t283 (ji11)).f0.f0)) || (!(((rd_T35 t283 x5_1).f0.f1) == ((rd_T35 t283 (ji11)).f0.f1)))) || ((!(((rd_T35 t283 x5_1).f1.f0) == ((rd_T35 t283 (ji11)).f1.f0)) || (!(((rd_T35 t283 x5_1).f1.f1) == ((rd_T35 t283 (ji11)).f1.f1)))))) = true then (if x4_1.length < 4398046511104 then (mapmakerref20_Unique.l0 k1 t283 (x4_1 ++ [(⟨(⟨(rd_T35 t283 x5_1).f0.f0, (rd_T35 t283 x5_1).f0.f1⟩ : S33), (⟨(rd_T35 t283 x5_1).f1.f0, (rd_T35 t283 x5_1).f1.f1⟩ : S33)⟩ : S35)]) (wrap64 (x5_1 + 1))) else (none)) else (mapmakerref20_Unique.l0 k1 t283 x4_1 (wrap64 (x5_1 + 1)))) else (none)) else (none)) = some r := by first | (rw [hji11] at H; exact H) | (simp only [hji11] at H ⊢; exact H)
      have hji11w : (IntKind.i64.wrap (x5_1 - 1)) = ji11 := (i64_w _).trans hji11
      by_cases c12 : 0 ≤ (ji11)
      ·rw [if_pos c12] at H
       have c12b0 : decide (0 ≤ (ji11)) = true := decide_eq_true c12
       clear c12
       by_cases c13 : (ji11) < (t283.length : Int)
       ·rw [if_pos c13] at H
        have c13b0 : decide ((ji11) < (t283.length : Int)) = true := decide_eq_true c13
        clear c13
        by_cases c14 : ((!(((rd_T35 t283 x5_1).f0.f0) == ((rd_T35 t283 (ji11)).f0.f0)) || (!(((rd_T35 t283 x5_1).f0.f1) == ((rd_T35 t283 (ji11)).f0.f1)))) || ((!(((rd_T35 t283 x5_1).f1.f0) == ((rd_T35 t283 (ji11)).f1.f0)) || (!(((rd_T35 t283 x5_1).f1.f1) == ((rd_T35 t283 (ji11)).f1.f1)))))) = true
        ·rw [if_pos c14] at H
         have c14b0 : ((!(((rd_T35 t283 x5_1).f0.f0) == ((rd_T35 t283 (ji11)).f0.f0)) || (!(((rd_T35 t283 x5_1).f0.f1) == ((rd_T35 t283 (ji11)).f0.f1)))) || ((!(((rd_T35 t283 x5_1).f1.f0) == ((rd_T35 t283 (ji11)).f1.f0)) || (!(((rd_T35 t283 x5_1).f1.f1) == ((rd_T35 t283 (ji11)).f1.f1)))))) = true := c14
         clear c14
         by_cases c15 : x4_1.length < 4398046511104
         ·rw [if_pos c15] at H
          have LMc15 := aM c15
          clear c15
          obtain ⟨y293, hy293⟩ : ∃ y_ : List (S35), y_ = (x4_1 ++ [(⟨(⟨(rd_T35 t283 x5_1).f0.f0, (rd_T35 t283 x5_1).f0.f1⟩ : S33), (⟨(rd_T35 t283 x5_1).f1.f0, (rd_T35 t283 x5_1).f1.f1⟩ : S33)⟩ : S35)]) := ⟨_, rfl⟩
          replace H : (mapmakerref20_Unique.l0 k1 t283 y293 (wrap64 (x5_1 + 1))) = some r := by first | (rw [hy293]; with_reducible exact H) | (have H2_ := (Option.bind_some _ _).symm.trans H; rw [hy293]; with_reducible exact H2_) | (have H2_ := (Option.bind_some _ _).symm.trans H; with_reducible exact H2_) | with_reducible exact H | (rw [hy293]; exact H) | exact H
          have Ny293 := aM hy293
          clear hy293
          have H' := aM H
          clear H
          obtain ⟨Ao16, co16, eo16⟩ := Kd.R_slice HO_3.out
          subst eo16
          have p290 : 0 ≤ (x5_1 : Int) := of_decide_eq_true (by first | (with_reducible assumption) | assumption)
          have q290 : x5_1 < (t283.length : Int) := of_decide_eq_true (by first | (with_reducible assumption) | assumption)
          obtain ⟨ad290, e290, hx290_0, hx290_1, hx290_2, hx290_3⟩ := at_T35 (rR HO_3.out).2.2 x5_1 p290 q290
          cases e290
          replace p290 := eq_true p290
          replace q290 := eq_true q290
          have p291 : 0 ≤ ((ji11) : Int) := of_decide_eq_true (by first | (with_reducible assumption) | assumption)
          have q291 : (ji11) < (t283.length : Int) := of_decide_eq_true (by first | (with_reducible assumption) | assumption)
          obtain ⟨ad291, e291, hx291_0, hx291_1, hx291_2, hx291_3⟩ := at_T35 (rR HO_3.out).2.2 (ji11) p291 q291
          obtain rfl : ad290 = ad291 := (by injection e291)
          replace p291 := eq_true p291
          replace q291 := eq_true q291
          have p292 : 0 ≤ (x5_1 : Int) := of_decide_eq_true (by first | (with_reducible assumption) | assumption)
          have q292 : x5_1 < (t283.length : Int) := of_decide_eq_true (by first | (with_reducible assumption) | assumption)
          obtain ⟨ad292, e292, hx292_0, hx292_1, hx292_2, hx292_3⟩ := at_T35 (rR HO_3.out).2.2 x5_1 p292 q292
          obtain rfl : ad290 = ad292 := (by injection e292)
          replace p292 := eq_true p292
          replace q292 := eq_true q292
          go_wp2_with (first | ((with_reducible refine gate_builtin (b := .append) (xs := #[.tmp 28, .tmp 33]) rfl ?_); at_builtin; refine Kd.R_append k35 (w0 := w) w.heap.size rfl (.tmp 28) (.tmp 33) 23 35 (.agg #[(.int .i64 0), (.int .i64 0), (.int .i64 0), (.int .i64 0)]) 32 rfl Try.underlying23 info35 rfl (by decide) (by omega) u4 x4_1 (⟨(⟨(rd_T35 t283 x5_1).f0.f0, (rd_T35 t283 x5_1).f0.f1⟩ : S33), (⟨(rd_T35 t283 x5_1).f1.f0, (rd_T35 t283 x5_1).f1.f1⟩ : S33)⟩ : S35) [.int .i64 ((rd_T35 t283 x5_1).f0.f0), .int .i64 ((rd_T35 t283 x5_1).f0.f1), .int .i64 ((rd_T35 t283 x5_1).f1.f0), .int .i64 ((rd_T35 t283 x5_1).f1.f1)] (fun k_ => some k_ ≠ (.slice (some ad290) t283.length co16 : Value).ownBlock) (fun _ => False) rfl rfl ?aP (fun _ hk => hk.elim) ?aF ?aO ?aB ?aS ?aL ?_; (case aP => exact k35_mkM _ _ _ (⟨(⟨(rd_T35 t283 x5_1).f0.f0, (rd_T35 t283 x5_1).f0.f1⟩ : S33), (⟨(rd_T35 t283 x5_1).f1.f0, (rd_T35 t283 x5_1).f1.f1⟩ : S33)⟩ : S35)); (case aB => exact (bl)); (case aF => exact (fun k_ hk => Kd.fresh' (Kd.R_lt (rl HO_3)) k_ hk)); (case aO => exact (rl HO_4)); (case aS => exact (below_size (bl))); (case aL => have := LMc15.out; omega); intro v294 w17 ho hb hg hat; rw [← Ny293.out] at ho; have n0_ := aM (Kd.R_after (ok := (fun _ => True)) (by (with_reducible repeat (first | apply rA | apply rN | apply rD)); exact rM HO_3.out (fun _ hk => ⟨trivial, hk⟩)) hg hat); have n1_ := aM (hb); have n2_ := aM (ho); clear HO_3 HB HO_4; have HO_3 := n0_; have HB := n1_; have HO295 := n2_; clear n0_ n1_ n2_ ho hb hg hat))
          repeat (go_quiet (first | ((with_reducible refine gate_builtin (b := .append) (xs := #[.tmp 28, .tmp 33]) rfl ?_); at_builtin; refine Kd.R_append k35 (w0 := w) w.heap.size rfl (.tmp 28) (.tmp 33) 23 35 (.agg #[(.int .i64 0), (.int .i64 0), (.int .i64 0), (.int .i64 0)]) 32 rfl Try.underlying23 info35 rfl (by decide) (by omega) u4 x4_1 (⟨(⟨(rd_T35 t283 x5_1).f0.f0, (rd_T35 t283 x5_1).f0.f1⟩ : S33), (⟨(rd_T35 t283 x5_1).f1.f0, (rd_T35 t283 x5_1).f1.f1⟩ : S33)⟩ : S35) [.int .i64 ((rd_T35 t283 x5_1).f0.f0), .int .i64 ((rd_T35 t283 x5_1).f0.f1), .int .i64 ((rd_T35 t283 x5_1).f1.f0), .int .i64 ((rd_T35 t283 x5_1).f1.f1)] (fun k_ => some k_ ≠ (.slice (some ad290) t283.length co16 : Value).ownBlock) (fun _ => False) rfl rfl ?aP (fun _ hk => hk.elim) ?aF ?aO ?aB ?aS ?aL ?_; (case aP => exact k35_mkM _ _ _ (⟨(⟨(rd_T35 t283 x5_1).f0.f0, (rd_T35 t283 x5_1).f0.f1⟩ : S33), (⟨(rd_T35 t283 x5_1).f1.f0, (rd_T35 t283 x5_1).f1.f1⟩ : S33)⟩ : S35)); (case aB => exact (bl)); (case aF => exact (fun k_ hk => Kd.fresh' (Kd.R_lt (rl HO_3)) k_ hk)); (case aO => exact (rl HO_4)); (case aS => exact (below_size (bl))); (case aL => have := LMc15.out; omega); intro v294 w17 ho hb hg hat; rw [← Ny293.out] at ho; have n0_ := aM (Kd.R_after (ok := (fun _ => True)) (by (with_reducible repeat (first | apply rA | apply rN | apply rD)); exact rM HO_3.out (fun _ hk => ⟨trivial, hk⟩)) hg hat); have n1_ := aM (hb); have n2_ := aM (ho); clear HO_3 HB HO_4; have HO_3 := n0_; have HB := n1_; have HO295 := n2_; clear n0_ n1_ n2_ ho hb hg hat)); try go_wp2_with (first | ((with_reducible refine gate_builtin (b := .append) (xs := #[.tmp 28, .tmp 33]) rfl ?_); at_builtin; refine Kd.R_append k35 (w0 := w) w.heap.size rfl (.tmp 28) (.tmp 33) 23 35 (.agg #[(.int .i64 0), (.int .i64 0), (.int .i64 0), (.int .i64 0)]) 32 rfl Try.underlying23 info35 rfl (by decide) (by omega) u4 x4_1 (⟨(⟨(rd_T35 t283 x5_1).f0.f0, (rd_T35 t283 x5_1).f0.f1⟩ : S33), (⟨(rd_T35 t283 x5_1).f1.f0, (rd_T35 t283 x5_1).f1.f1⟩ : S33)⟩ : S35) [.int .i64 ((rd_T35 t283 x5_1).f0.f0), .int .i64 ((rd_T35 t283 x5_1).f0.f1), .int .i64 ((rd_T35 t283 x5_1).f1.f0), .int .i64 ((rd_T35 t283 x5_1).f1.f1)] (fun k_ => some k_ ≠ (.slice (some ad290) t283.length co16 : Value).ownBlock) (fun _ => False) rfl rfl ?aP (fun _ hk => hk.elim) ?aF ?aO ?aB ?aS ?aL ?_; (case aP => exact k35_mkM _ _ _ (⟨(⟨(rd_T35 t283 x5_1).f0.f0, (rd_T35 t283 x5_1).f0.f1⟩ : S33), (⟨(rd_T35 t283 x5_1).f1.f0, (rd_T35 t283 x5_1).f1.f1⟩ : S33)⟩ : S35)); (case aB => exact (bl)); (case aF => exact (fun k_ hk => Kd.fresh' (Kd.R_lt (rl HO_3)) k_ hk)); (case aO => exact (rl HO_4)); (case aS => exact (below_size (bl))); (case aL => have := LMc15.out; omega); intro v294 w17 ho hb hg hat; rw [← Ny293.out] at ho; have n0_ := aM (Kd.R_after (ok := (fun _ => True)) (by (with_reducible repeat (first | apply rA | apply rN | apply rD)); exact rM HO_3.out (fun _ hk => ⟨trivial, hk⟩)) hg hat); have n1_ := aM (hb); have n2_ := aM (ho); clear HO_3 HB HO_4; have HO_3 := n0_; have HB := n1_; have HO295 := n2_; clear n0_ n1_ n2_ ho hb hg hat)))
          go_roundg k1
          case measure => have := HK1.out; omega
          case rel => exact ⟨(y293), (wrap64 (x5_1 + 1)), (by first | rfl | (simp; done) | (simp [*]; done)), H', ⟨by have := HK1.out; omega⟩, ⟨by (with_reducible repeat (first | apply rA | apply rN | apply rD)); exact rM HO_3.out (fun _ hk => hk.2)⟩, ⟨by (with_reducible repeat (first | apply rA | apply rN | apply rD)); exact HO295.out⟩, ⟨bl⟩⟩
         ·rw [if_neg c15] at H
          exact absurd H (by simp)
        ·rw [if_neg c14] at H
         have c14b0 : ((!(((rd_T35 t283 x5_1).f0.f0) == ((rd_T35 t283 (ji11)).f0.f0)) || (!(((rd_T35 t283 x5_1).f0.f1) == ((rd_T35 t283 (ji11)).f0.f1)))) || ((!(((rd_T35 t283 x5_1).f1.f0) == ((rd_T35 t283 (ji11)).f1.f0)) || (!(((rd_T35 t283 x5_1).f1.f1) == ((rd_T35 t283 (ji11)).f1.f1)))))) = false := by simpa using c14
         clear c14
         have H' := aM H
         clear H
         obtain ⟨Ao18, co18, eo18⟩ := Kd.R_slice HO_3.out
         subst eo18
         have p290 : 0 ≤ (x5_1 : Int) := of_decide_eq_true (by first | (with_reducible assumption) | assumption)
         have q290 : x5_1 < (t283.length : Int) := of_decide_eq_true (by first | (with_reducible assumption) | assumption)
         obtain ⟨ad290, e290, hx290_0, hx290_1, hx290_2, hx290_3⟩ := at_T35 (rR HO_3.out).2.2 x5_1 p290 q290
         cases e290
         replace p290 := eq_true p290
         replace q290 := eq_true q290
         have p291 : 0 ≤ ((ji11) : Int) := of_decide_eq_true (by first | (with_reducible assumption) | assumption)
         have q291 : (ji11) < (t283.length : Int) := of_decide_eq_true (by first | (with_reducible assumption) | assumption)
         obtain ⟨ad291, e291, hx291_0, hx291_1, hx291_2, hx291_3⟩ := at_T35 (rR HO_3.out).2.2 (ji11) p291 q291
         obtain rfl : ad290 = ad291 := (by injection e291)
         replace p291 := eq_true p291
         replace q291 := eq_true q291
         go_wp2
         repeat (go_quiet (fail); try go_wp2)
         go_roundg k1
         case measure => have := HK1.out; omega
         case rel => exact ⟨(x4_1), (wrap64 (x5_1 + 1)), (by first | rfl | (simp; done) | (simp [*]; done)), H', ⟨by have := HK1.out; omega⟩, ⟨by (with_reducible repeat (first | apply rA | apply rN | apply rD)); exact HO_3.out⟩, ⟨by (with_reducible repeat (first | apply rA | apply rN | apply rD)); exact HO_4.out⟩, ⟨bl⟩⟩
       ·rw [if_neg c13] at H
        exact absurd H (by simp)
      ·rw [if_neg c12] at H
       exact absurd H (by simp)
     ·rw [if_neg c10] at H
      exact absurd H (by simp)
   ·rw [if_neg c4] at H
    have c4b0 : decide (x5_1 < (t283.length : Int)) = false := decide_eq_false c4
    clear c4
    obtain rfl := Option.some.inj H
    obtain ⟨Ao19, co19, eo19⟩ := Kd.R_slice HO_3.out
    subst eo19
    go_wp2
    repeat (go_quiet (fail); try go_wp2)
    go_ret
    exact ⟨_, by first | rfl | (simp [errW_none, errW_some] <;> rfl) | (simp [*, errW_none, errW_some] <;> rfl), by (with_reducible repeat (first | apply rA | apply rN | apply rD)); exact rM HO_4.out (fun _ hk => trivial), bl⟩
def mapmakerref09_sign.f (a0 : Int) : Option (Int) := if a0 < 0 then (some (-1)) else (if a0 > 0 then (some 1) else (some 0))
set_option maxHeartbeats 8000000 in
set_option maxRecDepth 100000 in
theorem mapmakerref09_sign.calls (a0 : Int) (r : Int) (w : World) (h : mapmakerref09_sign.f a0 = some r) :
  Calls Try.prog 50 #[.int .i64 a0] w fun e w' => e = .returned (.int .i64 r) ∧ Drawn0 w w' := by
 have H : (if a0 < 0 then (some (-1)) else (if a0 > 0 then (some 1) else (some 0))) = some r := h
 clear h
 by_cases c2 : a0 < 0
 ·rw [if_pos c2] at H
  have c2b0 : decide (a0 < 0) = true := decide_eq_true c2
  clear c2
  obtain rfl := Option.some.inj H
  go_enter Try.func50, Try.ntmps50
  go_wp2
  go_ret
  exact ⟨by first | rfl | (simp; done) | (simp [*]; done), by repeat (first | exact Drawn0.refl _ | apply Drawn0.step)⟩
 ·rw [if_neg c2] at H
  have c2b0 : decide (a0 < 0) = false := decide_eq_false c2
  clear c2
  by_cases c3 : a0 > 0
  ·rw [if_pos c3] at H
   have c3b0 : decide (0 < a0) = true := decide_eq_true c3
   clear c3
   obtain rfl := Option.some.inj H
   go_enter Try.func50, Try.ntmps50
   go_wp2
   go_ret
   exact ⟨by first | rfl | (simp; done) | (simp [*]; done), by repeat (first | exact Drawn0.refl _ | apply Drawn0.step)⟩
  ·rw [if_neg c3] at H
   have c3b0 : decide (0 < a0) = false := decide_eq_false c3
   clear c3
   obtain rfl := Option.some.inj H
   go_enter Try.func50, Try.ntmps50
   go_wp2
   go_ret
   exact ⟨by first | rfl | (simp; done) | (simp [*]; done), by repeat (first | exact Drawn0.refl _ | apply Drawn0.step)⟩
end Go.Proofs.Ytmejeiddlhjjmaa.PNodingSplits
