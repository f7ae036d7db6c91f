-- out of a driver of this session's prover over the kit's print: Lean checks it
import Derived.Test.YtmejeiddlhjjmaaPNodingCrossesx0
import Derived.Test.YtmejeiddlhjjmaaPNodingCrossesx4
import Derived.Test.YtmejeiddlhjjmaaPNodingCrossesx5
import Derived.Test.YtmejeiddlhjjmaaPNodingCrossesx6
import Derived.Test.YtmejeiddlhjjmaaPNodingCrossesx7
namespace Go.Proofs.Ytmejeiddlhjjmaa.PNodingCrosses
open Go.Proofs.YtmejeiddlhjjmaaG Go.Shelf Go.Lib
open Go.RowKit Go.Proofs.YtmejeiddlhjjmaaW.PrintWords Go.Proofs.YtmejeiddlhjjmaaW.PrintLast Go.Proofs.YtmejeiddlhjjmaaW.PrintMore
attribute [local go_sem] max2_int min2_int max_two min_two max_three min_three max_four min_four   -- for this text's walks alone
set_option linter.unusedVariables false
set_option linter.unusedSimpArgs false
mutual
def noding_Split.l0 : Nat → List (S35) → List (S33) → List (S35) → Int → Int → Option ((List (S35)))
 | 0, _, _, _, _, _ => none
 | k + 1, x0, x3, x13, x14, x15 => if x15 < x14 then (if 0 ≤ x15 then (if x15 < (x13.length : Int) then ((some (([(⟨(rd_T35 x13 x15).f0.f0, (rd_T35 x13 x15).f0.f1⟩ : S33), (⟨(rd_T35 x13 x15).f1.f0, (rd_T35 x13 x15).f1.f1⟩ : S33)] : List (S33)) : List (S33))).bind fun y165 => (if x3.length + y165.length < 8796093022208 then (noding_Split.l0 k x0 (x3 ++ y165) x13 x14 (wrap64 (x15 + 1))) else (none))) else (none)) else (none)) else ((api_Point_by_noding_Split_1.f x3).bind fun t171 => ((api_Point_42.f t171).bind fun t172 => ((noding_canon.f k x0).bind fun t175 => (noding_Split.l1 k t172 ([] : List (S35)) t175 (t175.length : Int) 0))))
def noding_Split.l1 : Nat → List (S33) → List (S35) → List (S35) → Int → Int → Option ((List (S35)))
 | 0, _, _, _, _, _ => none
 | k + 1, x3, x6, x32, x33, x34 => if x34 < x33 then (if 0 ≤ x34 then (if x34 < (x32.length : Int) then (noding_Split.l2 k x3 x6 x32 x33 x34 x3 (x3.length : Int) 0 ((rd_T35 x32 x34).f0.f0) ((rd_T35 x32 x34).f0.f1) ((rd_T35 x32 x34).f1.f0) ((rd_T35 x32 x34).f1.f1) ((rd_T35 x32 x34).f0.f0) ((rd_T35 x32 x34).f0.f1)) else (none)) else (none)) else ((noding_Sort.f k x6).bind fun t178 => (some t178))
def noding_Split.l2 : Nat → List (S33) → List (S35) → List (S35) → Int → Int → List (S33) → Int → Int → Int → Int → Int → Int → Int → Int → Option ((List (S35)))
 | 0, _, _, _, _, _, _, _, _, _, _, _, _, _, _ => none
 | k + 1, x3, x6, x32, x33, x34, x40, x41, x42, x183000, x183001, x183002, x183003, x184000, x184001 => if x42 < x41 then (if 0 ≤ x42 then (if x42 < (x40.length : Int) then ((seg_Within.f k ((rd_T33 x40 x42).f0) ((rd_T33 x40 x42).f1) x183000 x183001 x183002 x183003).bind fun t186 => (if t186 = true then (if x6.length < 4398046511104 then (noding_Split.l2 k x3 (x6 ++ [(⟨(⟨x184000, x184001⟩ : S33), (⟨(rd_T33 x40 x42).f0, (rd_T33 x40 x42).f1⟩ : S33)⟩ : S35)]) x32 x33 x34 x40 x41 (wrap64 (x42 + 1)) x183000 x183001 x183002 x183003 ((rd_T33 x40 x42).f0) ((rd_T33 x40 x42).f1)) else (none)) else (noding_Split.l2 k x3 x6 x32 x33 x34 x40 x41 (wrap64 (x42 + 1)) x183000 x183001 x183002 x183003 x184000 x184001))) else (none)) else (none)) else (if x6.length < 4398046511104 then (noding_Split.l1 k x3 (x6 ++ [(⟨(⟨x184000, x184001⟩ : S33), (⟨x183002, x183003⟩ : S33)⟩ : S35)]) x32 x33 (wrap64 (x34 + 1))) else (none))
end
def noding_Split.f (k : Nat) (l0 : List (S35)) : Option ((List (S35))) := (noding_Unique.f k l0).bind fun t160 => (noding_Split.l0 k l0 ([] : List (S33)) t160 (t160.length : Int) 0)
theorem noding_Split.mono_l : ∀ k, (∀ y0 y1 y2 y3 y4, LeO (noding_Split.l0 k y0 y1 y2 y3 y4) (noding_Split.l0 (k + 1) y0 y1 y2 y3 y4)) ∧ (∀ y0 y1 y2 y3 y4, LeO (noding_Split.l1 k y0 y1 y2 y3 y4) (noding_Split.l1 (k + 1) y0 y1 y2 y3 y4)) ∧ (∀ y0 y1 y2 y3 y4 y5 y6 y7 y8 y9 y10 y11 y12 y13, LeO (noding_Split.l2 k y0 y1 y2 y3 y4 y5 y6 y7 y8 y9 y10 y11 y12 y13) (noding_Split.l2 (k + 1) y0 y1 y2 y3 y4 y5 y6 y7 y8 y9 y10 y11 y12 y13))
 | 0 => ⟨fun _ _ _ _ _ r h => by simp [noding_Split.l0] at h, fun _ _ _ _ _ r h => by simp [noding_Split.l1] at h, fun _ _ _ _ _ _ _ _ _ _ _ _ _ _ r h => by simp [noding_Split.l2] at h⟩
 | k + 1 => by
  obtain ⟨ih0, ih1, ih2⟩ := noding_Split.mono_l k
  refine ⟨?_, ?_, ?_⟩
  ·intro y0 y1 y2 y3 y4
   unfold noding_Split.l0
   repeat' first
   | (with_reducible exact ih0 _ _ _ _ _)
   | (with_reducible exact ih1 _ _ _ _ _)
   | (with_reducible exact ih2 _ _ _ _ _ _ _ _ _ _ _ _ _ _)
   | (with_reducible exact noding_Sort.mono _ _)
   | (with_reducible exact noding_Unique.mono _ _)
   | (with_reducible exact noding_canon.mono _ _)
   | (with_reducible exact seg_Within.mono _ _ _ _ _ _ _)
   | (with_reducible exact LeO.refl _)
   | (with_reducible exact LeO.none _)
   | (with_reducible refine LeO.ite ?_ ?_)
   | (with_reducible refine LeO.bind ?_ (fun _ => ?_))
   | exact ih0 _ _ _ _ _
   | exact ih1 _ _ _ _ _
   | exact ih2 _ _ _ _ _ _ _ _ _ _ _ _ _ _
   | exact noding_Sort.mono _ _
   | exact noding_Unique.mono _ _
   | exact noding_canon.mono _ _
   | exact seg_Within.mono _ _ _ _ _ _ _
   | exact LeO.none _
   | refine LeO.ite ?_ ?_
   | refine LeO.bind ?_ (fun _ => ?_)
  ·intro y0 y1 y2 y3 y4
   unfold noding_Split.l1
   repeat' first
   | (with_reducible exact ih0 _ _ _ _ _)
   | (with_reducible exact ih1 _ _ _ _ _)
   | (with_reducible exact ih2 _ _ _ _ _ _ _ _ _ _ _ _ _ _)
   | (with_reducible exact noding_Sort.mono _ _)
   | (with_reducible exact noding_Unique.mono _ _)
   | (with_reducible exact noding_canon.mono _ _)
   | (with_reducible exact seg_Within.mono _ _ _ _ _ _ _)
   | (with_reducible exact LeO.refl _)
   | (with_reducible exact LeO.none _)
   | (with_reducible refine LeO.ite ?_ ?_)
   | (with_reducible refine LeO.bind ?_ (fun _ => ?_))
   | exact ih0 _ _ _ _ _
   | exact ih1 _ _ _ _ _
   | exact ih2 _ _ _ _ _ _ _ _ _ _ _ _ _ _
   | exact noding_Sort.mono _ _
   | exact noding_Unique.mono _ _
   | exact noding_canon.mono _ _
   | exact seg_Within.mono _ _ _ _ _ _ _
   | exact LeO.none _
   | refine LeO.ite ?_ ?_
   | refine LeO.bind ?_ (fun _ => ?_)
  ·intro y0 y1 y2 y3 y4 y5 y6 y7 y8 y9 y10 y11 y12 y13
   unfold noding_Split.l2
   repeat' first
   | (with_reducible exact ih0 _ _ _ _ _)
   | (with_reducible exact ih1 _ _ _ _ _)
   | (with_reducible exact ih2 _ _ _ _ _ _ _ _ _ _ _ _ _ _)
   | (with_reducible exact noding_Sort.mono _ _)
   | (with_reducible exact noding_Unique.mono _ _)
   | (with_reducible exact noding_canon.mono _ _)
   | (with_reducible exact seg_Within.mono _ _ _ _ _ _ _)
   | (with_reducible exact LeO.refl _)
   | (with_reducible exact LeO.none _)
   | (with_reducible refine LeO.ite ?_ ?_)
   | (with_reducible refine LeO.bind ?_ (fun _ => ?_))
   | exact ih0 _ _ _ _ _
   | exact ih1 _ _ _ _ _
   | exact ih2 _ _ _ _ _ _ _ _ _ _ _ _ _ _
   | exact noding_Sort.mono _ _
   | exact noding_Unique.mono _ _
   | exact noding_canon.mono _ _
   | exact seg_Within.mono _ _ _ _ _ _ _
   | exact LeO.none _
   | refine LeO.ite ?_ ?_
   | refine LeO.bind ?_ (fun _ => ?_)
theorem noding_Split.mono : ∀ a0 k, LeO (noding_Split.f k a0) (noding_Split.f (k + 1) a0) := by
 intro a0 k
 obtain ⟨ih0, ih1, ih2⟩ := noding_Split.mono_l k
 unfold noding_Split.f
 repeat' first
   | (with_reducible exact ih0 _ _ _ _ _)
   | (with_reducible exact ih1 _ _ _ _ _)
   | (with_reducible exact ih2 _ _ _ _ _ _ _ _ _ _ _ _ _ _)
   | (with_reducible exact noding_Sort.mono _ _)
   | (with_reducible exact noding_Unique.mono _ _)
   | (with_reducible exact noding_canon.mono _ _)
   | (with_reducible exact seg_Within.mono _ _ _ _ _ _ _)
   | (with_reducible exact LeO.refl _)
   | (with_reducible exact LeO.none _)
   | (with_reducible refine LeO.ite ?_ ?_)
   | (with_reducible refine LeO.bind ?_ (fun _ => ?_))
   | exact ih0 _ _ _ _ _
   | exact ih1 _ _ _ _ _
   | exact ih2 _ _ _ _ _ _ _ _ _ _ _ _ _ _
   | exact noding_Sort.mono _ _
   | exact noding_Unique.mono _ _
   | exact noding_canon.mono _ _
   | exact seg_Within.mono _ _ _ _ _ _ _
   | exact LeO.none _
   | refine LeO.ite ?_ ?_
   | refine LeO.bind ?_ (fun _ => ?_)
set_option maxHeartbeats 8000000 in
set_option maxRecDepth 100000 in
theorem noding_Split.calls (k : Nat) (A0 : Option Addr) (c0 : Nat) (l0 : List (S35)) (r : List (S35)) (w : World) (hr0 : Kd.C k35 w A0 l0.length l0) (hc0 : l0.length ≤ c0) (h : noding_Split.f k l0 = some r) :
  Calls Try.prog 19 #[.slice A0 l0.length c0] w fun e w' => ∃ v0_ : Value, e = .returned (v0_) ∧ Kd.R k35 35 w' w.heap.size (fun _ => True) v0_ r ∧ Below w.heap.size w w' := by
 have hu35 := Try.underlying35
 have hu33 := Try.underlying33
 have HR0 := aM hr0
 have HC0 := aM hc0
 clear hr0 hc0
 have HB := aM (Below.refl w.heap.size w)
 have H : ((noding_Unique.f k l0).bind fun t160 => (noding_Split.l0 k l0 ([] : List (S33)) t160 (t160.length : Int) 0)) = some r := h
 clear h
 replace H := Option.bind_eq_some_iff.mp H
 obtain ⟨t160, A20, H⟩ := H
 try dsimp only at H
 have A2 := aM A20
 clear A20
 have H' := aM H
 clear H
 go_enter Try.func19, Try.ntmps19
 go_wp2_with (first | ((with_reducible refine gate_callee (f := 15) rfl ?_); refine goesL_ (some 13) rfl rfl Try.func15 (by kernel_rfl) rfl #[.slice A0 l0.length c0] rfl (by (try simp only [List.map_toArray, List.map_cons, List.map_nil]); first | done | rfl | (simp only [List.length_drop, List.length_take]; rfl)) ?_; (with_reducible refine (noding_Unique.calls k _ _ l0 t160 _ ?side1 ?side2 A2.out).mono ?_); (case side1 => repeat (first | exact HR0.out | (with_reducible refine cA ?_ _) | (with_reducible refine cN ?_ _) | (with_reducible refine cD ?_))); (case side2 => exact HC0.out); rintro e w3 ⟨v161, rfl, ho0, hb⟩; refine ⟨_, rfl, ?_⟩; have HO162 := aM (Kd.R_lower ho0 (below_size (bl))); replace HB := aM (bS (bl) hb); (try clear hb); (try clear hb2); (try clear hk); (try clear hi); (try clear ho0); obtain ⟨Ao4, co4, eo4⟩ := Kd.R_slice HO162.out; subst eo4))
 go_loopg [3, 15] k (fun kq v3 v15 w' => ∃ (x3_1 : List (S33)) (x15_1 : Int), v15 = .int .i64 x15_1 ∧ Aside0 (noding_Split.l0 kq l0 x3_1 t160 (t160.length : Int) x15_1 = some r) ∧ Aside0 (kq ≤ k) ∧ Aside0 (Kd.R k33 33 w' w.heap.size (fun _ => True) v3 x3_1) ∧ Aside0 (Kd.R k35 35 w' w.heap.size (fun _ => True) (.slice Ao4 t160.length co4) t160) ∧ Aside0 (Below w.heap.size w w'))
 case atStart => exact ⟨(([] : List (S33))), (0), (by first | rfl | (simp; done) | (simp [*]; done)), H', ⟨Nat.le_refl _⟩, ⟨by first | exact Kd.R_nil _ _ _ _ _ | exact Kd.N_nil _ _ _ _ _ | exact Kd.V_nil _ _ _ _ _ | exact Kd.Q_nil _ _ _ _ _ | exact Kd.S_nil _ _ _ _ _⟩, ⟨by (with_reducible repeat (first | apply rA | apply rN | apply rD)); exact HO162.out⟩, ⟨bl⟩⟩
 case round =>
  clear H'
  try clear c1
  try clear p2
  obtain ⟨x3_1, x15_1, rfl, HA, HK1, HO_3, HO_13, HB⟩ := hrel
  cases gk with
  | zero => exact absurd HA.out (by simp [noding_Split.l0])
  | succ k1 =>
   have H := HA.out
   clear HA
   simp only [noding_Split.l0] at H
   by_cases c5 : x15_1 < (t160.length : Int)
   ·rw [if_pos c5] at H
    have c5b0 : decide (x15_1 < (t160.length : Int)) = true := decide_eq_true c5
    clear c5
    by_cases c6 : 0 ≤ x15_1
    ·rw [if_pos c6] at H
     have c6b0 : decide (0 ≤ x15_1) = true := decide_eq_true c6
     clear c6
     by_cases c7 : x15_1 < (t160.length : Int)
     ·rw [if_pos c7] at H
      have c7b0 : decide (x15_1 < (t160.length : Int)) = true := decide_eq_true c7
      clear c7
      obtain ⟨y165, hy165⟩ : ∃ y_ : List (S33), y_ = (([(⟨(rd_T35 t160 x15_1).f0.f0, (rd_T35 t160 x15_1).f0.f1⟩ : S33), (⟨(rd_T35 t160 x15_1).f1.f0, (rd_T35 t160 x15_1).f1.f1⟩ : S33)] : List (S33))) := ⟨_, rfl⟩
      replace H : (if x3_1.length + y165.length < 8796093022208 then (noding_Split.l0 k1 l0 (x3_1 ++ y165) t160 (t160.length : Int) (wrap64 (x15_1 + 1))) else (none)) = some r := by first | (rw [hy165]; with_reducible exact H) | (have H2_ := (Option.bind_some _ _).symm.trans H; rw [hy165]; with_reducible exact H2_) | (have H2_ := (Option.bind_some _ _).symm.trans H; with_reducible exact H2_) | with_reducible exact H | (rw [hy165]; exact H) | exact H
      have Ny165 := aM hy165
      clear hy165
      by_cases c8 : x3_1.length + y165.length < 8796093022208
      ·rw [if_pos c8] at H
       have LMc8 := aM c8
       clear c8
       obtain ⟨y168, hy168⟩ : ∃ y_ : List (S33), y_ = (x3_1 ++ y165) := ⟨_, rfl⟩
       replace H : (noding_Split.l0 k1 l0 y168 t160 (t160.length : Int) (wrap64 (x15_1 + 1))) = some r := by first | (rw [hy168]; with_reducible exact H) | (have H2_ := (Option.bind_some _ _).symm.trans H; rw [hy168]; with_reducible exact H2_) | (have H2_ := (Option.bind_some _ _).symm.trans H; with_reducible exact H2_) | with_reducible exact H | (rw [hy168]; exact H) | exact H
       have Ny168 := aM hy168
       clear hy168
       have H' := aM H
       clear H
       have p163 : 0 ≤ (x15_1 : Int) := of_decide_eq_true (by first | (with_reducible assumption) | assumption)
       have q163 : x15_1 < (t160.length : Int) := of_decide_eq_true (by first | (with_reducible assumption) | assumption)
       obtain ⟨ad163, e163, hx163_0, hx163_1, hx163_2, hx163_3⟩ := at_T35 (rR HO_13.out).2.2 x15_1 p163 q163
       cases e163
       replace p163 := eq_true p163
       replace q163 := eq_true q163
       go_wp2_with (first | ((with_reducible refine gate_dst (N := 5) rfl ?_); refine box_event ?hg (N := 5) ?hd (cs := #[.int .i64 0, .int .i64 0, .int .i64 0, .int .i64 0]) (t := 35) ?hr ?_; (case hd => rfl); (case hg => rfl); (case hr => first | (go_simp; done) | (go_simp; rfl)); intro gb164 hg w9 hbox hb; have n0_ := aM (rB (rl HO_3) hb); have n1_ := aM (rB (rL (rl HO_13) gb164 (Nat.le_of_eq hg.symm)) hb); have n2_ := aM (bS (bl) hb); have n3_ := aM (hbox); have n4_ := aM ((by rw [hg]; exact (below_size (bl)) : w.heap.size ≤ gb164)); have n5_ := aM ((by rw [hg]; exact (below_size (bl)) : w.heap.size ≤ gb164)); clear HO_3 HO_13 HB; have HO_3 := n0_; have HO_13 := n1_; have HB := n2_; have BK164 := n3_; have GW164 := n4_; have GE164 := n5_; clear n0_ n1_ n2_ n3_ n4_ n5_ hb hbox hg; have hcz10_0 : w9.cell? ⟨gb164, 0, none⟩ = some (.int .i64 0) := (kC BK164.out 0).trans rfl; have hcz10_1 : w9.cell? ⟨gb164, 1, none⟩ = some (.int .i64 0) := (kC BK164.out 1).trans rfl; have hcz10_2 : w9.cell? ⟨gb164, 2, none⟩ = some (.int .i64 0) := (kC BK164.out 2).trans rfl; have hcz10_3 : w9.cell? ⟨gb164, 3, none⟩ = some (.int .i64 0) := (kC BK164.out 3).trans rfl; have hfz10_0 := kF BK164.out 0; have hfz10_1 := kF BK164.out 1; have hfz10_2 := kF BK164.out 2; have hfz10_3 := kF BK164.out 3) | ((with_reducible refine gate_dst (N := 24) rfl ?_); refine Kd.R_lit k33 _ 33 ?hg (N := 24) ?hd (xs := ([(⟨(rd_T35 t160 x15_1).f0.f0, (rd_T35 t160 x15_1).f0.f1⟩ : S33), (⟨(rd_T35 t160 x15_1).f1.f0, (rd_T35 t160 x15_1).f1.f1⟩ : S33)] : List (S33))) (inner := [.int .i64 ((rd_T35 t160 x15_1).f0.f0), .int .i64 ((rd_T35 t160 x15_1).f0.f1), .int .i64 ((rd_T35 t160 x15_1).f1.f0), .int .i64 ((rd_T35 t160 x15_1).f1.f1)]) (ok := fun _ => True) (okp := fun _ => True) ?hr ?hp (fun _ hk => hk) trivial (Below.refl _ _) (Nat.le_refl _) (by simp) ?_; (case hd => rfl); (case hg => rfl); (case hr => first | (go_simp; done) | (go_simp; rfl)); (case hp => exact (Reps.c2 (show Kd.M k33 _ _ _ (⟨(rd_T35 t160 x15_1).f0.f0, (rd_T35 t160 x15_1).f0.f1⟩ : S33) [.int .i64 ((rd_T35 t160 x15_1).f0.f0), .int .i64 ((rd_T35 t160 x15_1).f0.f1)] from (k33_mkM _ _ _ (⟨(rd_T35 t160 x15_1).f0.f0, (rd_T35 t160 x15_1).f0.f1⟩ : S33) )) (Reps.c2 (show Kd.M k33 _ _ _ (⟨(rd_T35 t160 x15_1).f1.f0, (rd_T35 t160 x15_1).f1.f1⟩ : S33) [.int .i64 ((rd_T35 t160 x15_1).f1.f0), .int .i64 ((rd_T35 t160 x15_1).f1.f1)] from (k33_mkM _ _ _ (⟨(rd_T35 t160 x15_1).f1.f0, (rd_T35 t160 x15_1).f1.f1⟩ : S33) )) (Reps.none _ _)))); intro v166 w11 ho12 hb hg_ hnew_; clear hg_ hnew_; (first | rw [← Ny165.out] at ho12 | (simp only [Int.reduceToNat] at ho12; rw [← Ny165.out] at ho12)); have n0_ := aM (rE (by (with_reducible repeat (first | apply rA | apply rN | apply rD)); exact (rM (Kd.R_far (p := ⟨gb164, 3, none⟩) (Kd.R_far (p := ⟨gb164, 2, none⟩) (Kd.R_far (p := ⟨gb164, 1, none⟩) (Kd.R_far (p := ⟨gb164, 0, none⟩) (Kd.R_types HO_3.out BK164.out (by decide)) (fun _ hk => hk.2) (.int .i64 ((rd_T35 t160 x15_1).f0.f0))) (fun _ hk => hk.2) (.int .i64 ((rd_T35 t160 x15_1).f0.f1))) (fun _ hk => hk.2) (.int .i64 ((rd_T35 t160 x15_1).f1.f0))) (fun _ hk => hk.2) (.int .i64 ((rd_T35 t160 x15_1).f1.f1))) (fun _ h_ => h_.1))) (Kd.R_base ho12) hb); have n1_ := aM (rB (by (with_reducible repeat (first | apply rA | apply rN | apply rD)); exact (rM (Kd.R_far (p := ⟨gb164, 3, none⟩) (Kd.R_far (p := ⟨gb164, 2, none⟩) (Kd.R_far (p := ⟨gb164, 1, none⟩) (Kd.R_far (p := ⟨gb164, 0, none⟩) (rM HO_13.out (fun k_ hk => (⟨hk, hk.2⟩ : _ ∧ k_ ≠ gb164))) (fun _ hk => hk.2) (.int .i64 ((rd_T35 t160 x15_1).f0.f0))) (fun _ hk => hk.2) (.int .i64 ((rd_T35 t160 x15_1).f0.f1))) (fun _ hk => hk.2) (.int .i64 ((rd_T35 t160 x15_1).f1.f0))) (fun _ hk => hk.2) (.int .i64 ((rd_T35 t160 x15_1).f1.f1))) (fun _ h_ => h_.1))) hb); have n2_ := aM (Kd.R_lower (Kd.R_new' ho12 (Kd.R_lt (by (with_reducible repeat (first | apply rA | apply rN | apply rD)); exact (rM (Kd.R_far (p := ⟨gb164, 3, none⟩) (Kd.R_far (p := ⟨gb164, 2, none⟩) (Kd.R_far (p := ⟨gb164, 1, none⟩) (Kd.R_far (p := ⟨gb164, 0, none⟩) (Kd.R_types HO_3.out BK164.out (by decide)) (fun _ hk => hk.2) (.int .i64 ((rd_T35 t160 x15_1).f0.f0))) (fun _ hk => hk.2) (.int .i64 ((rd_T35 t160 x15_1).f0.f1))) (fun _ hk => hk.2) (.int .i64 ((rd_T35 t160 x15_1).f1.f0))) (fun _ hk => hk.2) (.int .i64 ((rd_T35 t160 x15_1).f1.f1))) (fun _ h_ => h_.1))))) (below_size (bl))); have n3_ := aM (kB (g := gb164) (o := .cells #[.int .i64 ((rd_T35 t160 x15_1).f0.f0), .int .i64 ((rd_T35 t160 x15_1).f0.f1), .int .i64 ((rd_T35 t160 x15_1).f1.f0), .int .i64 ((rd_T35 t160 x15_1).f1.f1)] 35 (0, 0)) (by (with_reducible repeat (first | refine kN ?_ _ | refine kD ?_ | refine kA ?_ _)); refine kP (cs := #[.int .i64 ((rd_T35 t160 x15_1).f0.f0), .int .i64 ((rd_T35 t160 x15_1).f0.f1), .int .i64 ((rd_T35 t160 x15_1).f1.f0), .int .i64 0]) ?_ 3 _ rfl; (with_reducible repeat (first | refine kN ?_ _ | refine kD ?_ | refine kA ?_ _)); refine kP (cs := #[.int .i64 ((rd_T35 t160 x15_1).f0.f0), .int .i64 ((rd_T35 t160 x15_1).f0.f1), .int .i64 0, .int .i64 0]) ?_ 2 _ rfl; (with_reducible repeat (first | refine kN ?_ _ | refine kD ?_ | refine kA ?_ _)); refine kP (cs := #[.int .i64 ((rd_T35 t160 x15_1).f0.f0), .int .i64 0, .int .i64 0, .int .i64 0]) ?_ 1 _ rfl; (with_reducible repeat (first | refine kN ?_ _ | refine kD ?_ | refine kA ?_ _)); refine kP (cs := #[.int .i64 0, .int .i64 0, .int .i64 0, .int .i64 0]) ?_ 0 _ rfl; (with_reducible repeat (first | refine kN ?_ _ | refine kD ?_ | refine kA ?_ _)); exact BK164.out) hb); have n4_ := aM (bS (bl) hb); clear HO_3 HO_13 BK164 HB; have HO_3 := n0_; have HO_13 := n1_; have HO167 := n2_; have BK164 := n3_; have HB := n4_; clear n0_ n1_ n2_ n3_ n4_ hb ho12; obtain ⟨Ao14, co14, eo14⟩ := Kd.R_slice HO167.out; subst eo14) | ((with_reducible refine gate_builtin (b := .append) (xs := #[.tmp 19, .tmp 24]) rfl ?_); at_builtin; refine Kd.R_append_rows k33 (w0 := w) w.heap.size rfl (.tmp 19) (.tmp 24) 22 33 (.agg #[(.int .i64 0), (.int .i64 0)]) 16 rfl Try.underlying22 info33 rfl (by decide) (by omega) u3 x3_1 y165 _ _ _ (fun k_ => some k_ ≠ (.slice Ao14 y165.length co14 : Value).ownBlock) (fun _ => False) rfl rfl ?aO ?aR (fun _ _ h => h) (fun _ h => h.elim) ?aF ?aB ?aS ?aL ?_; (case aR => repeat (first | exact (rR HO167.out).2.2 | (with_reducible refine cA ?_ _) | (with_reducible refine cN ?_ _) | (with_reducible refine cD ?_))); (case aB => exact (bl)); (case aF => exact (fun k_ hk => Kd.fresh' (Kd.R_lt (rl HO167)) k_ hk)); (case aO => exact (by (with_reducible repeat (first | apply rA | apply rN | apply rD)); exact rM HO_3.out (fun _ hk => hk.2))); (case aS => exact (below_size (bl))); (case aL => have := LMc8.out; omega); intro v169 w13 ho hb hg hat; rw [← Ny168.out] at ho; have n0_ := aM (Kd.R_over' (rl HO_13) (Kd.R_typed (rl HO_3)) (by decide) hg); have n1_ := aM (blk_grown (g := gb164) (o := .cells #[.int .i64 ((rd_T35 t160 x15_1).f0.f0), .int .i64 ((rd_T35 t160 x15_1).f0.f1), .int .i64 ((rd_T35 t160 x15_1).f1.f0), .int .i64 ((rd_T35 t160 x15_1).f1.f1)] 35 (0, 0)) (kl BK164) hg (Kd.R_ne HO_3.out BK164.out (by decide))); have n2_ := aM (Kd.R_after (ok := (fun _ => True)) (rl HO167) hg hat); have n3_ := aM (hb); have n4_ := aM (ho); clear HO_13 BK164 HO167 HB HO_3; have HO_13 := n0_; have BK164 := n1_; have HO167 := n2_; have HB := n3_; have HO170 := n4_; clear n0_ n1_ n2_ n3_ n4_ ho hb hg hat))
       go_roundg k1
       case measure => have := HK1.out; omega
       case rel => exact ⟨(y168), (wrap64 (x15_1 + 1)), (by first | rfl | (simp; done) | (simp [*]; done)), H', ⟨by have := HK1.out; omega⟩, ⟨by (with_reducible repeat (first | apply rA | apply rN | apply rD)); exact rM HO170.out (fun _ hk => trivial)⟩, ⟨by (with_reducible repeat (first | apply rA | apply rN | apply rD)); exact rM HO_13.out (fun _ hk => trivial)⟩, ⟨bl⟩⟩
      ·rw [if_neg c8] at H
       exact absurd H (by simp)
     ·rw [if_neg c7] at H
      exact absurd H (by simp)
    ·rw [if_neg c6] at H
     exact absurd H (by simp)
   ·rw [if_neg c5] at H
    have c5b0 : decide (x15_1 < (t160.length : Int)) = false := decide_eq_false c5
    clear c5
    replace H := Option.bind_eq_some_iff.mp H
    obtain ⟨t171, A150, H⟩ := H
    try dsimp only at H
    have A15 := aM A150
    clear A150
    replace H := Option.bind_eq_some_iff.mp H
    obtain ⟨t172, A160, H⟩ := H
    try dsimp only at H
    have A16 := aM A160
    clear A160
    replace H := Option.bind_eq_some_iff.mp H
    obtain ⟨t175, A170, H⟩ := H
    try dsimp only at H
    have A17 := aM A170
    clear A170
    have H' := aM H
    clear H
    obtain ⟨Ao18, co18, eo18⟩ := Kd.R_slice HO_3.out
    subst eo18
    go_wp2_with (first | ((with_reducible refine gate_callee (f := 39) rfl ?_); refine goesL_ (some 28) rfl rfl Try.func39 (by kernel_rfl) rfl #[.slice Ao18 x3_1.length co18, .func (.func 40) #[] #[]] rfl (by (try simp only [List.map_toArray, List.map_cons, List.map_nil]); first | done | rfl | (simp only [List.length_drop, List.length_take]; rfl)) ?_; (with_reducible refine (api_Point_by_noding_Split_1.calls (fun k_ => some k_ = (.slice Ao18 x3_1.length co18 : Value).ownBlock) (.slice Ao18 x3_1.length co18) x3_1 t171 w _ ?side1 ?side2 A15.out).mono ?_); (case side1 => repeat (first | (with_reducible first | exact HB.out | apply bA | apply bN | apply bD) | exact HB.out)); (case side2 => exact Kd.R_tight rfl HO_3.out); rintro e w19 ⟨rfl, hy0, hb, hkp⟩; refine ⟨_, rfl, ?_⟩; replace HO_13 := aM (rM (ok' := fun k_ => True) (Kd.R_keptB ((Kd.R_apart' HO_13.out (Kd.R_typed HO_3.out) (by decide))) hkp (fun k_ hk_ hs_ => (hk_.2) hs_)) (fun k_ hk_ => trivial)); replace HO_3 := aM (Kd.R_reok rfl hy0 (fun k_ e_ => HO_3.out.1 k_ e_)); replace HB := aM (hb); (try clear hb); (try clear hkp); (try clear hy0)) | ((with_reducible refine gate_callee (f := 42) rfl ?_); refine goesL_ (some 30) rfl rfl Try.func42 (by kernel_rfl) rfl #[.slice Ao18 x3_1.length co18] rfl (by (try simp only [List.map_toArray, List.map_cons, List.map_nil]); first | done | rfl | (simp only [List.length_drop, List.length_take]; rfl)) ?_; (with_reducible refine (api_Point_42.calls (fun k_ => some k_ = (.slice Ao18 x3_1.length co18 : Value).ownBlock) (.slice Ao18 x3_1.length co18) t171 t172 w _ ?side1 ?side2 A16.out).mono ?_); (case side1 => repeat (first | (with_reducible first | exact HB.out | apply bA | apply bN | apply bD) | exact HB.out)); (case side2 => exact Kd.R_tight rfl HO_3.out); rintro e w20 ⟨v173, rfl, ho0, hb, hkp⟩; refine ⟨_, rfl, ?_⟩; replace HO_13 := aM (rM (ok' := fun k_ => True) (Kd.R_keptB ((Kd.R_apart' HO_13.out (Kd.R_typed HO_3.out) (by decide))) hkp (fun k_ hk_ hs_ => (hk_.2) hs_)) (fun k_ hk_ => trivial)); have HO174 := aM (rM (ok' := fun k_ => True) ho0 (fun k_ hk_ => trivial)); replace HB := aM (hb); clear HO_3; (try clear hb); (try clear hkp); (try clear ho0)) | ((with_reducible refine gate_callee (f := 29) rfl ?_); refine goesL_ (some 32) rfl rfl Try.func29 (by kernel_rfl) rfl #[.slice A0 l0.length c0] rfl (by (try simp only [List.map_toArray, List.map_cons, List.map_nil]); first | done | rfl | (simp only [List.length_drop, List.length_take]; rfl)) ?_; (with_reducible refine (noding_canon.calls k1 _ _ l0 t175 _ ?side1 ?side2 A17.out).mono ?_); (case side1 => repeat (first | exact (Kd.C_below HR0.out HB.out) | (with_reducible refine cA ?_ _) | (with_reducible refine cN ?_ _) | (with_reducible refine cD ?_))); (case side2 => exact HC0.out); rintro e w21 ⟨v176, rfl, ho0, hb⟩; refine ⟨_, rfl, ?_⟩; replace HO174 := aM (rB (rl HO174) hb); have HO177 := aM (Kd.R_lower (Kd.R_new' ho0 (Kd.R_lt (rl HO_13))) (below_size (bl))); replace HO_13 := aM (rE (rl HO_13) (Kd.R_base ho0) hb); replace HB := aM (bS (bl) hb); (try clear hb); (try clear hb2); (try clear hk); (try clear hi); (try clear ho0); obtain ⟨Ao22, co22, eo22⟩ := Kd.R_slice HO177.out; subst eo22))
    go_loopg [6, 34] k1 (fun kq v6 v34 w' => ∃ (x6_2 : List (S35)) (x34_2 : Int), v34 = .int .i64 x34_2 ∧ Aside0 (noding_Split.l1 kq t172 x6_2 t175 (t175.length : Int) x34_2 = some r) ∧ Aside0 (kq ≤ k1) ∧ Aside0 (Kd.R k33 33 w' w.heap.size (fun _ => True) v173 t172) ∧ Aside0 (Kd.R k35 35 w' w.heap.size (fun k_ => some k_ ≠ ((.slice Ao22 t175.length co22) : Value).ownBlock) v6 x6_2) ∧ Aside0 (Kd.R k35 35 w' w.heap.size (fun k_ => some k_ ≠ (v6 : Value).ownBlock) (.slice Ao22 t175.length co22) t175) ∧ Aside0 (Below w.heap.size w w'))
    case atStart => exact ⟨(([] : List (S35))), (0), (by first | rfl | (simp; done) | (simp [*]; done)), H', ⟨Nat.le_refl _⟩, ⟨by (with_reducible repeat (first | apply rA | apply rN | apply rD)); exact HO174.out⟩, ⟨by first | exact Kd.R_nil _ _ _ _ _ | exact Kd.N_nil _ _ _ _ _ | exact Kd.V_nil _ _ _ _ _ | exact Kd.Q_nil _ _ _ _ _ | exact Kd.S_nil _ _ _ _ _⟩, ⟨by (with_reducible repeat (first | apply rA | apply rN | apply rD)); exact rM HO177.out (fun _ hk => (by simp [Value.ownBlock]))⟩, ⟨bl⟩⟩
    case round =>
     clear H'
     try clear c1
     try clear p1
     try clear q1
     try clear hx1
     try clear c2
     try clear p2
     try clear c3
     try clear c4
     try clear c5
     try clear c5b0
     try clear c6
     try clear c6b0
     try clear p6
     try clear c7
     try clear c7b0
     try clear c8
     try clear c15
     try clear p16
     try clear q16
     try clear hx16
     try clear c19
     try clear hcz10_0
     try clear hcz10_1
     try clear hcz10_2
     try clear hcz10_3
     try clear hfz10_0
     try clear hfz10_1
     try clear hfz10_2
     try clear hfz10_3
     try clear hx163_0
     try clear hx163_1
     try clear hx163_2
     try clear hx163_3
     try clear p163
     try clear p2
     try clear q163
     obtain ⟨x6_2, x34_2, rfl, HA, HK2, HO_3, HO_6, HO_32, HB⟩ := hrel
     cases gk with
     | zero => exact absurd HA.out (by simp [noding_Split.l1])
     | succ k2 =>
      have H := HA.out
      clear HA
      simp only [noding_Split.l1] at H
      by_cases c23 : x34_2 < (t175.length : Int)
      ·rw [if_pos c23] at H
       have c23b0 : decide (x34_2 < (t175.length : Int)) = true := decide_eq_true c23
       clear c23
       by_cases c24 : 0 ≤ x34_2
       ·rw [if_pos c24] at H
        have c24b0 : decide (0 ≤ x34_2) = true := decide_eq_true c24
        clear c24
        by_cases c25 : x34_2 < (t175.length : Int)
        ·rw [if_pos c25] at H
         have c25b0 : decide (x34_2 < (t175.length : Int)) = true := decide_eq_true c25
         clear c25
         have H' := aM H
         clear H
         have p181 : 0 ≤ (x34_2 : Int) := of_decide_eq_true (by first | (with_reducible assumption) | assumption)
         have q181 : x34_2 < (t175.length : Int) := of_decide_eq_true (by first | (with_reducible assumption) | assumption)
         obtain ⟨ad181, e181, hx181_0, hx181_1, hx181_2, hx181_3⟩ := at_T35 (rR HO_32.out).2.2 x34_2 p181 q181
         cases e181
         replace p181 := eq_true p181
         replace q181 := eq_true q181
         go_wp2_with (first | ((with_reducible refine gate_dst (N := 8) rfl ?_); refine box_event ?hg (N := 8) ?hd (cs := #[.int .i64 0, .int .i64 0, .int .i64 0, .int .i64 0]) (t := 35) ?hr ?_; (case hd => rfl); (case hg => rfl); (case hr => first | (go_simp; done) | (go_simp; rfl)); intro gb182 hg w26 hbox hb; have n0_ := aM (rB (rl HO_3) hb); have n1_ := aM (rB (rL (rl HO_6) gb182 (Nat.le_of_eq hg.symm)) hb); have n2_ := aM (rB (rL (rl HO_32) gb182 (Nat.le_of_eq hg.symm)) hb); have n3_ := aM (bS (bl) hb); have n4_ := aM (hbox); have n5_ := aM ((by rw [hg]; exact (below_size (bl)) : w.heap.size ≤ gb182)); have n6_ := aM ((by rw [hg]; exact (below_size (bl)) : w.heap.size ≤ gb182)); clear HO_3 HO_6 HO_32 HB; have HO_3 := n0_; have HO_6 := n1_; have HO_32 := n2_; have HB := n3_; have BK182 := n4_; have GW182 := n5_; have GE182 := n6_; clear n0_ n1_ n2_ n3_ n4_ n5_ n6_ hb hbox hg; have hcz27_0 : w26.cell? ⟨gb182, 0, none⟩ = some (.int .i64 0) := (kC BK182.out 0).trans rfl; have hcz27_1 : w26.cell? ⟨gb182, 1, none⟩ = some (.int .i64 0) := (kC BK182.out 1).trans rfl; have hcz27_2 : w26.cell? ⟨gb182, 2, none⟩ = some (.int .i64 0) := (kC BK182.out 2).trans rfl; have hcz27_3 : w26.cell? ⟨gb182, 3, none⟩ = some (.int .i64 0) := (kC BK182.out 3).trans rfl; have hfz27_0 := kF BK182.out 0; have hfz27_1 := kF BK182.out 1; have hfz27_2 := kF BK182.out 2; have hfz27_3 := kF BK182.out 3) | ((with_reducible refine gate_dst (N := 9) rfl ?_); refine box_event ?hg (N := 9) ?hd (cs := #[.int .i64 0, .int .i64 0]) (t := 33) ?hr ?_; (case hd => rfl); (case hg => rfl); (case hr => first | (go_simp; done) | (go_simp; rfl)); intro gb183 hg w28 hbox hb; have n0_ := aM (rB (rL (by (with_reducible repeat (first | apply rA | apply rN | apply rD)); exact (rM (Kd.R_far (p := ⟨gb182, 3, none⟩) (Kd.R_far (p := ⟨gb182, 2, none⟩) (Kd.R_far (p := ⟨gb182, 1, none⟩) (Kd.R_far (p := ⟨gb182, 0, none⟩) (Kd.R_types HO_3.out BK182.out (by decide)) (fun _ hk => hk.2) (.int .i64 ((rd_T35 t175 x34_2).f0.f0))) (fun _ hk => hk.2) (.int .i64 ((rd_T35 t175 x34_2).f0.f1))) (fun _ hk => hk.2) (.int .i64 ((rd_T35 t175 x34_2).f1.f0))) (fun _ hk => hk.2) (.int .i64 ((rd_T35 t175 x34_2).f1.f1))) (fun _ h_ => h_.1))) gb183 (Nat.le_of_eq hg.symm)) hb); have n1_ := aM (rB (by (with_reducible repeat (first | apply rA | apply rN | apply rD)); exact (rM (Kd.R_far (p := ⟨gb182, 3, none⟩) (Kd.R_far (p := ⟨gb182, 2, none⟩) (Kd.R_far (p := ⟨gb182, 1, none⟩) (Kd.R_far (p := ⟨gb182, 0, none⟩) (rM HO_6.out (fun k_ hk => (⟨hk, hk.2⟩ : _ ∧ k_ ≠ gb182))) (fun _ hk => hk.2) (.int .i64 ((rd_T35 t175 x34_2).f0.f0))) (fun _ hk => hk.2) (.int .i64 ((rd_T35 t175 x34_2).f0.f1))) (fun _ hk => hk.2) (.int .i64 ((rd_T35 t175 x34_2).f1.f0))) (fun _ hk => hk.2) (.int .i64 ((rd_T35 t175 x34_2).f1.f1))) (fun _ h_ => h_.1))) hb); have n2_ := aM (rB (by (with_reducible repeat (first | apply rA | apply rN | apply rD)); exact (rM (Kd.R_far (p := ⟨gb182, 3, none⟩) (Kd.R_far (p := ⟨gb182, 2, none⟩) (Kd.R_far (p := ⟨gb182, 1, none⟩) (Kd.R_far (p := ⟨gb182, 0, none⟩) (rM HO_32.out (fun k_ hk => (⟨hk, hk.2⟩ : _ ∧ k_ ≠ gb182))) (fun _ hk => hk.2) (.int .i64 ((rd_T35 t175 x34_2).f0.f0))) (fun _ hk => hk.2) (.int .i64 ((rd_T35 t175 x34_2).f0.f1))) (fun _ hk => hk.2) (.int .i64 ((rd_T35 t175 x34_2).f1.f0))) (fun _ hk => hk.2) (.int .i64 ((rd_T35 t175 x34_2).f1.f1))) (fun _ h_ => h_.1))) hb); have n3_ := aM (kB (g := gb182) (o := .cells #[.int .i64 ((rd_T35 t175 x34_2).f0.f0), .int .i64 ((rd_T35 t175 x34_2).f0.f1), .int .i64 ((rd_T35 t175 x34_2).f1.f0), .int .i64 ((rd_T35 t175 x34_2).f1.f1)] 35 (0, 0)) (by (with_reducible repeat (first | refine kN ?_ _ | refine kD ?_ | refine kA ?_ _)); refine kP (cs := #[.int .i64 ((rd_T35 t175 x34_2).f0.f0), .int .i64 ((rd_T35 t175 x34_2).f0.f1), .int .i64 ((rd_T35 t175 x34_2).f1.f0), .int .i64 0]) ?_ 3 _ rfl; (with_reducible repeat (first | refine kN ?_ _ | refine kD ?_ | refine kA ?_ _)); refine kP (cs := #[.int .i64 ((rd_T35 t175 x34_2).f0.f0), .int .i64 ((rd_T35 t175 x34_2).f0.f1), .int .i64 0, .int .i64 0]) ?_ 2 _ rfl; (with_reducible repeat (first | refine kN ?_ _ | refine kD ?_ | refine kA ?_ _)); refine kP (cs := #[.int .i64 ((rd_T35 t175 x34_2).f0.f0), .int .i64 0, .int .i64 0, .int .i64 0]) ?_ 1 _ rfl; (with_reducible repeat (first | refine kN ?_ _ | refine kD ?_ | refine kA ?_ _)); refine kP (cs := #[.int .i64 0, .int .i64 0, .int .i64 0, .int .i64 0]) ?_ 0 _ rfl; (with_reducible repeat (first | refine kN ?_ _ | refine kD ?_ | refine kA ?_ _)); exact BK182.out) hb); have n4_ := aM (bS (bl) hb); have n5_ := aM (hbox); have n6_ := aM ((by rw [hg]; exact (below_size (bl)) : w.heap.size ≤ gb183)); have n7_ := aM ((by rw [hg]; exact (below_size (bl)) : w.heap.size ≤ gb183)); have n8_ := aM ((by rw [hg]; exact Nat.ne_of_lt (blk_lt (g := gb182) (o := .cells #[.int .i64 ((rd_T35 t175 x34_2).f0.f0), .int .i64 ((rd_T35 t175 x34_2).f0.f1), .int .i64 ((rd_T35 t175 x34_2).f1.f0), .int .i64 ((rd_T35 t175 x34_2).f1.f1)] 35 (0, 0)) (by (with_reducible repeat (first | refine kN ?_ _ | refine kD ?_ | refine kA ?_ _)); refine kP (cs := #[.int .i64 ((rd_T35 t175 x34_2).f0.f0), .int .i64 ((rd_T35 t175 x34_2).f0.f1), .int .i64 ((rd_T35 t175 x34_2).f1.f0), .int .i64 0]) ?_ 3 _ rfl; (with_reducible repeat (first | refine kN ?_ _ | refine kD ?_ | refine kA ?_ _)); refine kP (cs := #[.int .i64 ((rd_T35 t175 x34_2).f0.f0), .int .i64 ((rd_T35 t175 x34_2).f0.f1), .int .i64 0, .int .i64 0]) ?_ 2 _ rfl; (with_reducible repeat (first | refine kN ?_ _ | refine kD ?_ | refine kA ?_ _)); refine kP (cs := #[.int .i64 ((rd_T35 t175 x34_2).f0.f0), .int .i64 0, .int .i64 0, .int .i64 0]) ?_ 1 _ rfl; (with_reducible repeat (first | refine kN ?_ _ | refine kD ?_ | refine kA ?_ _)); refine kP (cs := #[.int .i64 0, .int .i64 0, .int .i64 0, .int .i64 0]) ?_ 0 _ rfl; (with_reducible repeat (first | refine kN ?_ _ | refine kD ?_ | refine kA ?_ _)); exact BK182.out)) : gb182 ≠ gb183)); have n9_ := aM ((by rw [hg]; exact Nat.ne_of_gt (blk_lt (g := gb182) (o := .cells #[.int .i64 ((rd_T35 t175 x34_2).f0.f0), .int .i64 ((rd_T35 t175 x34_2).f0.f1), .int .i64 ((rd_T35 t175 x34_2).f1.f0), .int .i64 ((rd_T35 t175 x34_2).f1.f1)] 35 (0, 0)) (by (with_reducible repeat (first | refine kN ?_ _ | refine kD ?_ | refine kA ?_ _)); refine kP (cs := #[.int .i64 ((rd_T35 t175 x34_2).f0.f0), .int .i64 ((rd_T35 t175 x34_2).f0.f1), .int .i64 ((rd_T35 t175 x34_2).f1.f0), .int .i64 0]) ?_ 3 _ rfl; (with_reducible repeat (first | refine kN ?_ _ | refine kD ?_ | refine kA ?_ _)); refine kP (cs := #[.int .i64 ((rd_T35 t175 x34_2).f0.f0), .int .i64 ((rd_T35 t175 x34_2).f0.f1), .int .i64 0, .int .i64 0]) ?_ 2 _ rfl; (with_reducible repeat (first | refine kN ?_ _ | refine kD ?_ | refine kA ?_ _)); refine kP (cs := #[.int .i64 ((rd_T35 t175 x34_2).f0.f0), .int .i64 0, .int .i64 0, .int .i64 0]) ?_ 1 _ rfl; (with_reducible repeat (first | refine kN ?_ _ | refine kD ?_ | refine kA ?_ _)); refine kP (cs := #[.int .i64 0, .int .i64 0, .int .i64 0, .int .i64 0]) ?_ 0 _ rfl; (with_reducible repeat (first | refine kN ?_ _ | refine kD ?_ | refine kA ?_ _)); exact BK182.out)) : gb183 ≠ gb182)); clear HO_3 HO_6 HO_32 BK182 HB; have HO_3 := n0_; have HO_6 := n1_; have HO_32 := n2_; have BK182 := n3_; have HB := n4_; have BK183 := n5_; have GW183 := n6_; have GE183 := n7_; have NB182_183 := n8_; have NB183_182 := n9_; clear n0_ n1_ n2_ n3_ n4_ n5_ n6_ n7_ n8_ n9_ hb hbox hg; have hnb29 := NB183_182.out; have hnc29 := NB182_183.out; have hcz30_0 : w28.cell? ⟨gb183, 0, none⟩ = some (.int .i64 0) := (kC BK183.out 0).trans rfl; have hcz30_1 : w28.cell? ⟨gb183, 1, none⟩ = some (.int .i64 0) := (kC BK183.out 1).trans rfl; have hfz30_0 := kF BK183.out 0; have hfz30_1 := kF BK183.out 1; obtain ⟨Ao31, co31, eo31⟩ := Kd.R_slice HO_3.out; subst eo31))
         go_loopg [6, 42] k2 (fun kq v6 v42 w' => ∃ (x6_3 : List (S35)) (x42_3 : Int) (x184000_3 : Int) (x184001_3 : Int), v42 = .int .i64 x42_3 ∧ Aside0 (noding_Split.l2 kq t172 x6_3 t175 (t175.length : Int) x34_2 t172 (t172.length : Int) x42_3 ((rd_T35 t175 x34_2).f0.f0) ((rd_T35 t175 x34_2).f0.f1) ((rd_T35 t175 x34_2).f1.f0) ((rd_T35 t175 x34_2).f1.f1) x184000_3 x184001_3 = some r) ∧ Aside0 (kq ≤ k2) ∧ Aside0 (Kd.R k33 33 w' w.heap.size (fun k_ => k_ ≠ gb183) (.slice Ao31 t172.length co31) t172) ∧ Aside0 (Kd.R k35 35 w' w.heap.size (fun k_ => some k_ ≠ ((.slice (some ad181) t175.length co22) : Value).ownBlock ∧ k_ ≠ gb182) v6 x6_3) ∧ Aside0 (Kd.R k35 35 w' w.heap.size (fun k_ => some k_ ≠ (v6 : Value).ownBlock ∧ k_ ≠ gb182) (.slice (some ad181) t175.length co22) t175) ∧ Aside0 (Kd.R k33 33 w' w.heap.size (fun k_ => k_ ≠ gb183) (.slice Ao31 t172.length co31) t172) ∧ Aside0 (w'.heap[gb182]? = some (.cells #[.int .i64 ((rd_T35 t175 x34_2).f0.f0), .int .i64 ((rd_T35 t175 x34_2).f0.f1), .int .i64 ((rd_T35 t175 x34_2).f1.f0), .int .i64 ((rd_T35 t175 x34_2).f1.f1)] 35 (0, 0))) ∧ Aside0 (w'.heap[gb183]? = some (.cells #[.int .i64 x184000_3, .int .i64 x184001_3] 33 (0, 0))) ∧ Aside0 (Below w.heap.size w w'))
         case atStart => exact ⟨(x6_2), (0), ((rd_T35 t175 x34_2).f0.f0), ((rd_T35 t175 x34_2).f0.f1), (by first | rfl | (simp; done) | (simp [*]; done)), H', ⟨Nat.le_refl _⟩, ⟨by (with_reducible repeat (first | apply rA | apply rN | apply rD)); exact rM (Kd.R_far (p := ⟨gb183, 1, none⟩) (Kd.R_far (p := ⟨gb183, 0, none⟩) (rM HO_3.out (fun k_ hk => (⟨hk, hk.2⟩ : _ ∧ k_ ≠ gb183))) (fun _ hk => hk.2) (.int .i64 ((rd_T35 t175 x34_2).f0.f0))) (fun _ hk => hk.2) (.int .i64 ((rd_T35 t175 x34_2).f0.f1))) (fun _ hk => hk.1.2)⟩, ⟨by (with_reducible repeat (first | apply rA | apply rN | apply rD)); exact rM (Kd.R_far (p := ⟨gb183, 1, none⟩) (Kd.R_far (p := ⟨gb183, 0, none⟩) (Kd.R_types HO_6.out BK183.out (by decide)) (fun _ hk => hk.2) (.int .i64 ((rd_T35 t175 x34_2).f0.f0))) (fun _ hk => hk.2) (.int .i64 ((rd_T35 t175 x34_2).f0.f1))) (fun _ hk => ⟨hk.1.1, hk.1.2⟩)⟩, ⟨by (with_reducible repeat (first | apply rA | apply rN | apply rD)); exact rM (Kd.R_far (p := ⟨gb183, 1, none⟩) (Kd.R_far (p := ⟨gb183, 0, none⟩) (Kd.R_types HO_32.out BK183.out (by decide)) (fun _ hk => hk.2) (.int .i64 ((rd_T35 t175 x34_2).f0.f0))) (fun _ hk => hk.2) (.int .i64 ((rd_T35 t175 x34_2).f0.f1))) (fun _ hk => ⟨hk.1.1, hk.1.2⟩)⟩, ⟨by (with_reducible repeat (first | apply rA | apply rN | apply rD)); exact rM (Kd.R_far (p := ⟨gb183, 1, none⟩) (Kd.R_far (p := ⟨gb183, 0, none⟩) (rM HO_3.out (fun k_ hk => (⟨hk, hk.2⟩ : _ ∧ k_ ≠ gb183))) (fun _ hk => hk.2) (.int .i64 ((rd_T35 t175 x34_2).f0.f0))) (fun _ hk => hk.2) (.int .i64 ((rd_T35 t175 x34_2).f0.f1))) (fun _ hk => hk.1.2)⟩, ⟨by (with_reducible repeat (first | refine kN ?_ _ | refine kD ?_ | refine kA ?_ _)); refine blk_far ?_ NB182_183.out _; (with_reducible repeat (first | refine kN ?_ _ | refine kD ?_ | refine kA ?_ _)); refine blk_far ?_ NB182_183.out _; (with_reducible repeat (first | refine kN ?_ _ | refine kD ?_ | refine kA ?_ _)); exact BK182.out⟩, ⟨by (with_reducible repeat (first | refine kN ?_ _ | refine kD ?_ | refine kA ?_ _)); refine kP (cs := #[.int .i64 ((rd_T35 t175 x34_2).f0.f0), .int .i64 0]) ?_ 1 _ rfl; (with_reducible repeat (first | refine kN ?_ _ | refine kD ?_ | refine kA ?_ _)); refine kP (cs := #[.int .i64 0, .int .i64 0]) ?_ 0 _ rfl; (with_reducible repeat (first | refine kN ?_ _ | refine kD ?_ | refine kA ?_ _)); exact BK183.out⟩, ⟨bl⟩⟩
         case round =>
          clear H'
          try clear c1
          try clear p1
          try clear q1
          try clear hx1
          try clear c2
          try clear p2
          try clear c3
          try clear c4
          try clear c5
          try clear c5b0
          try clear c6
          try clear c6b0
          try clear p6
          try clear c7
          try clear c7b0
          try clear c8
          try clear c15
          try clear p16
          try clear q16
          try clear hx16
          try clear p18
          try clear q18
          try clear hx18
          try clear c19
          try clear c23
          try clear c23b0
          try clear c24
          try clear c24b0
          try clear c25
          try clear c25b0
          try clear c29
          try clear hcz10_0
          try clear hcz10_1
          try clear hcz10_2
          try clear hcz10_3
          try clear hcz27_0
          try clear hcz27_1
          try clear hcz27_2
          try clear hcz27_3
          try clear hcz30_0
          try clear hcz30_1
          try clear hfz10_0
          try clear hfz10_1
          try clear hfz10_2
          try clear hfz10_3
          try clear hfz27_0
          try clear hfz27_1
          try clear hfz27_2
          try clear hfz27_3
          try clear hfz30_0
          try clear hfz30_1
          try clear hx163_0
          try clear hx163_1
          try clear hx163_2
          try clear hx163_3
          try clear hx181_0
          try clear hx181_1
          try clear hx181_2
          try clear hx181_3
          try clear p1
          try clear p16
          try clear p163
          try clear p181
          try clear p2
          try clear p6
          try clear q1
          try clear q16
          try clear q163
          try clear q181
          obtain ⟨x6_3, x42_3, x184000_3, x184001_3, rfl, HA, HK3, HO_3, HO_6, HO_32, HO_40, BK182, BK183, HB⟩ := hrel
          cases gk with
          | zero => exact absurd HA.out (by simp [noding_Split.l2])
          | succ k3 =>
           have H := HA.out
           clear HA
           simp only [noding_Split.l2] at H
           by_cases c32 : x42_3 < (t172.length : Int)
           ·rw [if_pos c32] at H
            have c32b0 : decide (x42_3 < (t172.length : Int)) = true := decide_eq_true c32
            clear c32
            by_cases c33 : 0 ≤ x42_3
            ·rw [if_pos c33] at H
             have c33b0 : decide (0 ≤ x42_3) = true := decide_eq_true c33
             clear c33
             by_cases c34 : x42_3 < (t172.length : Int)
             ·rw [if_pos c34] at H
              have c34b0 : decide (x42_3 < (t172.length : Int)) = true := decide_eq_true c34
              clear c34
              replace H := Option.bind_eq_some_iff.mp H
              obtain ⟨t186, A350, H⟩ := H
              try dsimp only at H
              have A35 := aM A350
              clear A350
              by_cases c36 : t186 = true
              ·subst c36
               have H1 : (if x6_3.length < 4398046511104 then (noding_Split.l2 k3 t172 (x6_3 ++ [(⟨(⟨x184000_3, x184001_3⟩ : S33), (⟨(rd_T33 t172 x42_3).f0, (rd_T33 t172 x42_3).f1⟩ : S33)⟩ : S35)]) t175 (t175.length : Int) x34_2 t172 (t172.length : Int) (wrap64 (x42_3 + 1)) ((rd_T35 t175 x34_2).f0.f0) ((rd_T35 t175 x34_2).f0.f1) ((rd_T35 t175 x34_2).f1.f0) ((rd_T35 t175 x34_2).f1.f1) ((rd_T33 t172 x42_3).f0) ((rd_T33 t172 x42_3).f1)) else (none)) = some r := by rw [if_pos rfl] at H; exact H
               clear H
               have H := H1
               clear H1
               by_cases c37 : x6_3.length < 4398046511104
               ·rw [if_pos c37] at H
                have LMc37 := aM c37
                clear c37
                obtain ⟨y187, hy187⟩ : ∃ y_ : List (S35), y_ = (x6_3 ++ [(⟨(⟨x184000_3, x184001_3⟩ : S33), (⟨(rd_T33 t172 x42_3).f0, (rd_T33 t172 x42_3).f1⟩ : S33)⟩ : S35)]) := ⟨_, rfl⟩
                replace H : (noding_Split.l2 k3 t172 y187 t175 (t175.length : Int) x34_2 t172 (t172.length : Int) (wrap64 (x42_3 + 1)) ((rd_T35 t175 x34_2).f0.f0) ((rd_T35 t175 x34_2).f0.f1) ((rd_T35 t175 x34_2).f1.f0) ((rd_T35 t175 x34_2).f1.f1) ((rd_T33 t172 x42_3).f0) ((rd_T33 t172 x42_3).f1)) = some r := by first | (rw [hy187]; with_reducible exact H) | (have H2_ := (Option.bind_some _ _).symm.trans H; rw [hy187]; with_reducible exact H2_) | (have H2_ := (Option.bind_some _ _).symm.trans H; with_reducible exact H2_) | with_reducible exact H | (rw [hy187]; exact H) | exact H
                have Ny187 := aM hy187
                clear hy187
                have H' := aM H
                clear H
                have p184 : 0 ≤ (x42_3 : Int) := of_decide_eq_true (by first | (with_reducible assumption) | assumption)
                have q184 : x42_3 < (t172.length : Int) := of_decide_eq_true (by first | (with_reducible assumption) | assumption)
                obtain ⟨ad184, e184, hx184_0, hx184_1⟩ := at_T33 (rR HO_40.out).2.2 x42_3 p184 q184
                cases e184
                replace p184 := eq_true p184
                replace q184 := eq_true q184
                go_wp2_with (first | ((with_reducible refine gate_dst (N := 11) rfl ?_); refine box_event ?hg (N := 11) ?hd (cs := #[.int .i64 0, .int .i64 0]) (t := 33) ?hr ?_; (case hd => rfl); (case hg => rfl); (case hr => first | (go_simp; done) | (go_simp; rfl)); intro gb185 hg w38 hbox hb; have n0_ := aM (rB (rL (rl HO_3) gb185 (Nat.le_of_eq hg.symm)) hb); have n1_ := aM (rB (rl HO_6) hb); have n2_ := aM (rB (rl HO_32) hb); have n3_ := aM (rB (rL (rl HO_40) gb185 (Nat.le_of_eq hg.symm)) hb); have n4_ := aM (kB (g := gb182) (o := .cells #[.int .i64 ((rd_T35 t175 x34_2).f0.f0), .int .i64 ((rd_T35 t175 x34_2).f0.f1), .int .i64 ((rd_T35 t175 x34_2).f1.f0), .int .i64 ((rd_T35 t175 x34_2).f1.f1)] 35 (0, 0)) (kl BK182) hb); have n5_ := aM (kB (g := gb183) (o := .cells #[.int .i64 x184000_3, .int .i64 x184001_3] 33 (0, 0)) (kl BK183) hb); have n6_ := aM (bS (bl) hb); have n7_ := aM (hbox); have n8_ := aM ((by rw [hg]; exact (below_size (bl)) : w.heap.size ≤ gb185)); have n9_ := aM ((by rw [hg]; exact (below_size (bl)) : w.heap.size ≤ gb185)); have n10_ := aM ((by rw [hg]; exact Nat.ne_of_lt (blk_lt (g := gb182) (o := .cells #[.int .i64 ((rd_T35 t175 x34_2).f0.f0), .int .i64 ((rd_T35 t175 x34_2).f0.f1), .int .i64 ((rd_T35 t175 x34_2).f1.f0), .int .i64 ((rd_T35 t175 x34_2).f1.f1)] 35 (0, 0)) (kl BK182)) : gb182 ≠ gb185)); have n11_ := aM ((by rw [hg]; exact Nat.ne_of_gt (blk_lt (g := gb182) (o := .cells #[.int .i64 ((rd_T35 t175 x34_2).f0.f0), .int .i64 ((rd_T35 t175 x34_2).f0.f1), .int .i64 ((rd_T35 t175 x34_2).f1.f0), .int .i64 ((rd_T35 t175 x34_2).f1.f1)] 35 (0, 0)) (kl BK182)) : gb185 ≠ gb182)); have n12_ := aM ((by rw [hg]; exact Nat.ne_of_lt (blk_lt (g := gb183) (o := .cells #[.int .i64 x184000_3, .int .i64 x184001_3] 33 (0, 0)) (kl BK183)) : gb183 ≠ gb185)); have n13_ := aM ((by rw [hg]; exact Nat.ne_of_gt (blk_lt (g := gb183) (o := .cells #[.int .i64 x184000_3, .int .i64 x184001_3] 33 (0, 0)) (kl BK183)) : gb185 ≠ gb183)); clear HO_3 HO_6 HO_32 HO_40 BK182 BK183 HB; have HO_3 := n0_; have HO_6 := n1_; have HO_32 := n2_; have HO_40 := n3_; have BK182 := n4_; have BK183 := n5_; have HB := n6_; have BK185 := n7_; have GW185 := n8_; have GE185 := n9_; have NB182_185 := n10_; have NB185_182 := n11_; have NB183_185 := n12_; have NB185_183 := n13_; clear n0_ n1_ n2_ n3_ n4_ n5_ n6_ n7_ n8_ n9_ n10_ n11_ n12_ n13_ hb hbox hg; have hnb39 := NB185_182.out; have hnc39 := NB182_185.out; have hnb40 := NB185_183.out; have hnc40 := NB183_185.out; have hcz41_0 : w38.cell? ⟨gb185, 0, none⟩ = some (.int .i64 0) := (kC BK185.out 0).trans rfl; have hcz41_1 : w38.cell? ⟨gb185, 1, none⟩ = some (.int .i64 0) := (kC BK185.out 1).trans rfl; have hfz41_0 := kF BK185.out 0; have hfz41_1 := kF BK185.out 1; have hnb42 := NB182_183.out; have hnc42 := NB183_182.out; have hcz43_0 : w38.cell? ⟨gb182, 0, none⟩ = some (.int .i64 ((rd_T35 t175 x34_2).f0.f0)) := (kC BK182.out 0).trans rfl; have hcz43_1 : w38.cell? ⟨gb182, 1, none⟩ = some (.int .i64 ((rd_T35 t175 x34_2).f0.f1)) := (kC BK182.out 1).trans rfl; have hcz43_2 : w38.cell? ⟨gb182, 2, none⟩ = some (.int .i64 ((rd_T35 t175 x34_2).f1.f0)) := (kC BK182.out 2).trans rfl; have hcz43_3 : w38.cell? ⟨gb182, 3, none⟩ = some (.int .i64 ((rd_T35 t175 x34_2).f1.f1)) := (kC BK182.out 3).trans rfl; have hfz43_0 := kF BK182.out 0; have hfz43_1 := kF BK182.out 1; have hfz43_2 := kF BK182.out 2; have hfz43_3 := kF BK182.out 3) | ((with_reducible refine gate_callee (f := 43) rfl ?_); refine goesL_ (some 51) rfl rfl Try.func43 (by kernel_rfl) rfl #[.agg #[.int .i64 ((rd_T33 t172 x42_3).f0), .int .i64 ((rd_T33 t172 x42_3).f1)], .agg #[.int .i64 ((rd_T35 t175 x34_2).f0.f0), .int .i64 ((rd_T35 t175 x34_2).f0.f1)], .agg #[.int .i64 ((rd_T35 t175 x34_2).f1.f0), .int .i64 ((rd_T35 t175 x34_2).f1.f1)]] rfl (by (try simp only [List.map_toArray, List.map_cons, List.map_nil]); first | done | rfl | (simp only [List.length_drop, List.length_take]; rfl)) ?_; (with_reducible refine (seg_Within.calls k3 ((rd_T33 t172 x42_3).f0) ((rd_T33 t172 x42_3).f1) ((rd_T35 t175 x34_2).f0.f0) ((rd_T35 t175 x34_2).f0.f1) ((rd_T35 t175 x34_2).f1.f0) ((rd_T35 t175 x34_2).f1.f1) true _ A35.out).mono ?_); rintro e w44 ⟨rfl, hb⟩; refine ⟨_, rfl, ?_⟩; have n0_ := aM (rB (by (with_reducible repeat (first | apply rA | apply rN | apply rD)); exact (rM (Kd.R_far (p := ⟨gb185, 1, none⟩) (Kd.R_far (p := ⟨gb185, 0, none⟩) (rM HO_3.out (fun k_ hk => (⟨hk, hk.2⟩ : _ ∧ k_ ≠ gb185))) (fun _ hk => hk.2) (.int .i64 ((rd_T33 t172 x42_3).f0))) (fun _ hk => hk.2) (.int .i64 ((rd_T33 t172 x42_3).f1))) (fun _ h_ => h_.1))) hb); have n1_ := aM (rB (by (with_reducible repeat (first | apply rA | apply rN | apply rD)); exact (rM (Kd.R_far (p := ⟨gb185, 1, none⟩) (Kd.R_far (p := ⟨gb185, 0, none⟩) (Kd.R_types HO_6.out BK185.out (by decide)) (fun _ hk => hk.2) (.int .i64 ((rd_T33 t172 x42_3).f0))) (fun _ hk => hk.2) (.int .i64 ((rd_T33 t172 x42_3).f1))) (fun _ h_ => h_.1))) hb); have n2_ := aM (rB (by (with_reducible repeat (first | apply rA | apply rN | apply rD)); exact (rM (Kd.R_far (p := ⟨gb185, 1, none⟩) (Kd.R_far (p := ⟨gb185, 0, none⟩) (Kd.R_types HO_32.out BK185.out (by decide)) (fun _ hk => hk.2) (.int .i64 ((rd_T33 t172 x42_3).f0))) (fun _ hk => hk.2) (.int .i64 ((rd_T33 t172 x42_3).f1))) (fun _ h_ => h_.1))) hb); have n3_ := aM (rB (by (with_reducible repeat (first | apply rA | apply rN | apply rD)); exact (rM (Kd.R_far (p := ⟨gb185, 1, none⟩) (Kd.R_far (p := ⟨gb185, 0, none⟩) (rM HO_40.out (fun k_ hk => (⟨hk, hk.2⟩ : _ ∧ k_ ≠ gb185))) (fun _ hk => hk.2) (.int .i64 ((rd_T33 t172 x42_3).f0))) (fun _ hk => hk.2) (.int .i64 ((rd_T33 t172 x42_3).f1))) (fun _ h_ => h_.1))) hb); have n4_ := aM (kB (g := gb182) (o := .cells #[.int .i64 ((rd_T35 t175 x34_2).f0.f0), .int .i64 ((rd_T35 t175 x34_2).f0.f1), .int .i64 ((rd_T35 t175 x34_2).f1.f0), .int .i64 ((rd_T35 t175 x34_2).f1.f1)] 35 (0, 0)) (by (with_reducible repeat (first | refine kN ?_ _ | refine kD ?_ | refine kA ?_ _)); refine blk_far ?_ NB182_185.out _; (with_reducible repeat (first | refine kN ?_ _ | refine kD ?_ | refine kA ?_ _)); refine blk_far ?_ NB182_185.out _; (with_reducible repeat (first | refine kN ?_ _ | refine kD ?_ | refine kA ?_ _)); exact BK182.out) hb); have n5_ := aM (kB (g := gb183) (o := .cells #[.int .i64 x184000_3, .int .i64 x184001_3] 33 (0, 0)) (by (with_reducible repeat (first | refine kN ?_ _ | refine kD ?_ | refine kA ?_ _)); refine blk_far ?_ NB183_185.out _; (with_reducible repeat (first | refine kN ?_ _ | refine kD ?_ | refine kA ?_ _)); refine blk_far ?_ NB183_185.out _; (with_reducible repeat (first | refine kN ?_ _ | refine kD ?_ | refine kA ?_ _)); exact BK183.out) hb); have n6_ := aM (kB (g := gb185) (o := .cells #[.int .i64 ((rd_T33 t172 x42_3).f0), .int .i64 ((rd_T33 t172 x42_3).f1)] 33 (0, 0)) (by (with_reducible repeat (first | refine kN ?_ _ | refine kD ?_ | refine kA ?_ _)); refine kP (cs := #[.int .i64 ((rd_T33 t172 x42_3).f0), .int .i64 0]) ?_ 1 _ rfl; (with_reducible repeat (first | refine kN ?_ _ | refine kD ?_ | refine kA ?_ _)); refine kP (cs := #[.int .i64 0, .int .i64 0]) ?_ 0 _ rfl; (with_reducible repeat (first | refine kN ?_ _ | refine kD ?_ | refine kA ?_ _)); exact BK185.out) hb); have n7_ := aM (bS (bl) hb); clear HO_3 HO_6 HO_32 HO_40 BK182 BK183 BK185 HB; have HO_3 := n0_; have HO_6 := n1_; have HO_32 := n2_; have HO_40 := n3_; have BK182 := n4_; have BK183 := n5_; have BK185 := n6_; have HB := n7_; clear n0_ n1_ n2_ n3_ n4_ n5_ n6_ n7_; (try clear hb); (try clear hb2); (try clear hk); (try clear hi); have hcz45_0 : w44.cell? ⟨gb183, 0, none⟩ = some (.int .i64 x184000_3) := (kC BK183.out 0).trans rfl; have hcz45_1 : w44.cell? ⟨gb183, 1, none⟩ = some (.int .i64 x184001_3) := (kC BK183.out 1).trans rfl; have hfz45_0 := kF BK183.out 0; have hfz45_1 := kF BK183.out 1; have hcz46_0 : w44.cell? ⟨gb185, 0, none⟩ = some (.int .i64 ((rd_T33 t172 x42_3).f0)) := (kC BK185.out 0).trans rfl; have hcz46_1 : w44.cell? ⟨gb185, 1, none⟩ = some (.int .i64 ((rd_T33 t172 x42_3).f1)) := (kC BK185.out 1).trans rfl; have hfz46_0 := kF BK185.out 0; have hfz46_1 := kF BK185.out 1) | ((with_reducible refine gate_builtin (b := .append) (xs := #[.tmp 52, .tmp 56]) rfl ?_); at_builtin; refine Kd.R_append k35 (w0 := w) w.heap.size rfl (.tmp 52) (.tmp 56) 23 35 (.agg #[(.int .i64 0), (.int .i64 0), (.int .i64 0), (.int .i64 0)]) 32 rfl Try.underlying23 info35 rfl (by decide) (by omega) u6 x6_3 (⟨(⟨x184000_3, x184001_3⟩ : S33), (⟨(rd_T33 t172 x42_3).f0, (rd_T33 t172 x42_3).f1⟩ : S33)⟩ : S35) [.int .i64 x184000_3, .int .i64 x184001_3, .int .i64 ((rd_T33 t172 x42_3).f0), .int .i64 ((rd_T33 t172 x42_3).f1)] (fun k_ => some k_ ≠ (.slice (some ad181) t175.length co22 : Value).ownBlock ∧ k_ ≠ gb182) (fun _ => False) rfl rfl ?aP (fun _ hk => hk.elim) ?aF ?aO ?aB ?aS ?aL ?_; (case aP => exact k35_mkM _ _ _ (⟨(⟨x184000_3, x184001_3⟩ : S33), (⟨(rd_T33 t172 x42_3).f0, (rd_T33 t172 x42_3).f1⟩ : S33)⟩ : S35)); (case aB => exact (bl)); (case aF => exact (fun k_ hk => ⟨Kd.fresh' (Kd.R_lt (rl HO_32)) k_ hk, Kd.freshB (g := gb182) (o := .cells #[.int .i64 ((rd_T35 t175 x34_2).f0.f0), .int .i64 ((rd_T35 t175 x34_2).f0.f1), .int .i64 ((rd_T35 t175 x34_2).f1.f0), .int .i64 ((rd_T35 t175 x34_2).f1.f1)] 35 (0, 0)) (kl BK182) k_ hk⟩)); (case aO => exact (rl HO_6)); (case aS => exact (below_size (bl))); (case aL => have := LMc37.out; omega); intro v188 w47 ho hb hg hat; rw [← Ny187.out] at ho; have n0_ := aM (Kd.R_over' (rl HO_3) (Kd.R_typed (rl HO_6)) (by decide) hg); have n1_ := aM (Kd.R_after (ok := (fun k_ => k_ ≠ gb182)) (by (with_reducible repeat (first | apply rA | apply rN | apply rD)); exact rM HO_32.out (fun _ hk => ⟨hk.2, hk.1⟩)) hg hat); have n2_ := aM (Kd.R_over' (rl HO_40) (Kd.R_typed (rl HO_6)) (by decide) hg); have n3_ := aM (blk_grown (g := gb182) (o := .cells #[.int .i64 ((rd_T35 t175 x34_2).f0.f0), .int .i64 ((rd_T35 t175 x34_2).f0.f1), .int .i64 ((rd_T35 t175 x34_2).f1.f0), .int .i64 ((rd_T35 t175 x34_2).f1.f1)] 35 (0, 0)) (kl BK182) hg (Kd.R_away HO_6.out (fun _ hk => hk.2))); have n4_ := aM (blk_grown (g := gb183) (o := .cells #[.int .i64 x184000_3, .int .i64 x184001_3] 33 (0, 0)) (kl BK183) hg (Kd.R_ne HO_6.out BK183.out (by decide))); have n5_ := aM (blk_grown (g := gb185) (o := .cells #[.int .i64 ((rd_T33 t172 x42_3).f0), .int .i64 ((rd_T33 t172 x42_3).f1)] 33 (0, 0)) (kl BK185) hg (Kd.R_ne HO_6.out BK185.out (by decide))); have n6_ := aM (hb); have n7_ := aM (ho); clear HO_3 HO_32 HO_40 BK182 BK183 BK185 HB HO_6; have HO_3 := n0_; have HO_32 := n1_; have HO_40 := n2_; have BK182 := n3_; have BK183 := n4_; have BK185 := n5_; have HB := n6_; have HO189 := n7_; clear n0_ n1_ n2_ n3_ n4_ n5_ n6_ n7_ ho hb hg hat; have hcz48_0 : w47.cell? ⟨gb185, 0, none⟩ = some (.int .i64 ((rd_T33 t172 x42_3).f0)) := (kC BK185.out 0).trans rfl; have hcz48_1 : w47.cell? ⟨gb185, 1, none⟩ = some (.int .i64 ((rd_T33 t172 x42_3).f1)) := (kC BK185.out 1).trans rfl; have hfz48_0 := kF BK185.out 0; have hfz48_1 := kF BK185.out 1; have hcz49_0 : w47.cell? ⟨gb183, 0, none⟩ = some (.int .i64 x184000_3) := (kC BK183.out 0).trans rfl; have hcz49_1 : w47.cell? ⟨gb183, 1, none⟩ = some (.int .i64 x184001_3) := (kC BK183.out 1).trans rfl; have hfz49_0 := kF BK183.out 0; have hfz49_1 := kF BK183.out 1))
                go_roundg k3
                case measure => have := HK1.out; have := HK2.out; have := HK3.out; omega
                case rel => exact ⟨(y187), (wrap64 (x42_3 + 1)), ((rd_T33 t172 x42_3).f0), ((rd_T33 t172 x42_3).f1), (by first | rfl | (simp; done) | (simp [*]; done)), H', ⟨by have := HK1.out; have := HK2.out; have := HK3.out; omega⟩, ⟨by (with_reducible repeat (first | apply rA | apply rN | apply rD)); exact rM (Kd.R_far (p := ⟨gb183, 1, none⟩) (Kd.R_far (p := ⟨gb183, 0, none⟩) (rM HO_3.out (fun k_ hk => (⟨hk, hk.1⟩ : _ ∧ k_ ≠ gb183))) (fun _ hk => hk.2) (.int .i64 ((rd_T33 t172 x42_3).f0))) (fun _ hk => hk.2) (.int .i64 ((rd_T33 t172 x42_3).f1))) (fun _ hk => hk.1.1)⟩, ⟨by (with_reducible repeat (first | apply rA | apply rN | apply rD)); exact rM (Kd.R_far (p := ⟨gb183, 1, none⟩) (Kd.R_far (p := ⟨gb183, 0, none⟩) (Kd.R_types HO189.out BK183.out (by decide)) (fun _ hk => hk.2) (.int .i64 ((rd_T33 t172 x42_3).f0))) (fun _ hk => hk.2) (.int .i64 ((rd_T33 t172 x42_3).f1))) (fun _ hk => ⟨hk.1.1, hk.1.2⟩)⟩, ⟨by (with_reducible repeat (first | apply rA | apply rN | apply rD)); exact rM (Kd.R_far (p := ⟨gb183, 1, none⟩) (Kd.R_far (p := ⟨gb183, 0, none⟩) (Kd.R_types HO_32.out BK183.out (by decide)) (fun _ hk => hk.2) (.int .i64 ((rd_T33 t172 x42_3).f0))) (fun _ hk => hk.2) (.int .i64 ((rd_T33 t172 x42_3).f1))) (fun _ hk => ⟨hk.1.2, hk.1.1⟩)⟩, ⟨by (with_reducible repeat (first | apply rA | apply rN | apply rD)); exact rM (Kd.R_far (p := ⟨gb183, 1, none⟩) (Kd.R_far (p := ⟨gb183, 0, none⟩) (rM HO_40.out (fun k_ hk => (⟨hk, hk.1⟩ : _ ∧ k_ ≠ gb183))) (fun _ hk => hk.2) (.int .i64 ((rd_T33 t172 x42_3).f0))) (fun _ hk => hk.2) (.int .i64 ((rd_T33 t172 x42_3).f1))) (fun _ hk => hk.1.1)⟩, ⟨by (with_reducible repeat (first | refine kN ?_ _ | refine kD ?_ | refine kA ?_ _)); refine blk_far ?_ NB182_183.out _; (with_reducible repeat (first | refine kN ?_ _ | refine kD ?_ | refine kA ?_ _)); refine blk_far ?_ NB182_183.out _; (with_reducible repeat (first | refine kN ?_ _ | refine kD ?_ | refine kA ?_ _)); exact BK182.out⟩, ⟨by (with_reducible repeat (first | refine kN ?_ _ | refine kD ?_ | refine kA ?_ _)); refine kP (cs := #[.int .i64 ((rd_T33 t172 x42_3).f0), .int .i64 x184001_3]) ?_ 1 _ rfl; (with_reducible repeat (first | refine kN ?_ _ | refine kD ?_ | refine kA ?_ _)); refine kP (cs := #[.int .i64 x184000_3, .int .i64 x184001_3]) ?_ 0 _ rfl; (with_reducible repeat (first | refine kN ?_ _ | refine kD ?_ | refine kA ?_ _)); exact BK183.out⟩, ⟨bl⟩⟩
               ·rw [if_neg c37] at H
                exact absurd H (by simp)
              ·replace c36 := Bool.eq_false_iff.mpr c36
               subst c36
               have H1 : (noding_Split.l2 k3 t172 x6_3 t175 (t175.length : Int) x34_2 t172 (t172.length : Int) (wrap64 (x42_3 + 1)) ((rd_T35 t175 x34_2).f0.f0) ((rd_T35 t175 x34_2).f0.f1) ((rd_T35 t175 x34_2).f1.f0) ((rd_T35 t175 x34_2).f1.f1) x184000_3 x184001_3) = some r := by rw [if_neg (show ¬ (false = true) by decide)] at H; exact H
               clear H
               have H := H1
               clear H1
               have H' := aM H
               clear H
               have p184 : 0 ≤ (x42_3 : Int) := of_decide_eq_true (by first | (with_reducible assumption) | assumption)
               have q184 : x42_3 < (t172.length : Int) := of_decide_eq_true (by first | (with_reducible assumption) | assumption)
               obtain ⟨ad184, e184, hx184_0, hx184_1⟩ := at_T33 (rR HO_40.out).2.2 x42_3 p184 q184
               cases e184
               replace p184 := eq_true p184
               replace q184 := eq_true q184
               go_wp2_with (first | ((with_reducible refine gate_dst (N := 11) rfl ?_); refine box_event ?hg (N := 11) ?hd (cs := #[.int .i64 0, .int .i64 0]) (t := 33) ?hr ?_; (case hd => rfl); (case hg => rfl); (case hr => first | (go_simp; done) | (go_simp; rfl)); intro gb185 hg w50 hbox hb; have n0_ := aM (rB (rL (rl HO_3) gb185 (Nat.le_of_eq hg.symm)) hb); have n1_ := aM (rB (rl HO_6) hb); have n2_ := aM (rB (rl HO_32) hb); have n3_ := aM (rB (rL (rl HO_40) gb185 (Nat.le_of_eq hg.symm)) hb); have n4_ := aM (kB (g := gb182) (o := .cells #[.int .i64 ((rd_T35 t175 x34_2).f0.f0), .int .i64 ((rd_T35 t175 x34_2).f0.f1), .int .i64 ((rd_T35 t175 x34_2).f1.f0), .int .i64 ((rd_T35 t175 x34_2).f1.f1)] 35 (0, 0)) (kl BK182) hb); have n5_ := aM (kB (g := gb183) (o := .cells #[.int .i64 x184000_3, .int .i64 x184001_3] 33 (0, 0)) (kl BK183) hb); have n6_ := aM (bS (bl) hb); have n7_ := aM (hbox); have n8_ := aM ((by rw [hg]; exact (below_size (bl)) : w.heap.size ≤ gb185)); have n9_ := aM ((by rw [hg]; exact (below_size (bl)) : w.heap.size ≤ gb185)); have n10_ := aM ((by rw [hg]; exact Nat.ne_of_lt (blk_lt (g := gb182) (o := .cells #[.int .i64 ((rd_T35 t175 x34_2).f0.f0), .int .i64 ((rd_T35 t175 x34_2).f0.f1), .int .i64 ((rd_T35 t175 x34_2).f1.f0), .int .i64 ((rd_T35 t175 x34_2).f1.f1)] 35 (0, 0)) (kl BK182)) : gb182 ≠ gb185)); have n11_ := aM ((by rw [hg]; exact Nat.ne_of_gt (blk_lt (g := gb182) (o := .cells #[.int .i64 ((rd_T35 t175 x34_2).f0.f0), .int .i64 ((rd_T35 t175 x34_2).f0.f1), .int .i64 ((rd_T35 t175 x34_2).f1.f0), .int .i64 ((rd_T35 t175 x34_2).f1.f1)] 35 (0, 0)) (kl BK182)) : gb185 ≠ gb182)); have n12_ := aM ((by rw [hg]; exact Nat.ne_of_lt (blk_lt (g := gb183) (o := .cells #[.int .i64 x184000_3, .int .i64 x184001_3] 33 (0, 0)) (kl BK183)) : gb183 ≠ gb185)); have n13_ := aM ((by rw [hg]; exact Nat.ne_of_gt (blk_lt (g := gb183) (o := .cells #[.int .i64 x184000_3, .int .i64 x184001_3] 33 (0, 0)) (kl BK183)) : gb185 ≠ gb183)); clear HO_3 HO_6 HO_32 HO_40 BK182 BK183 HB; have HO_3 := n0_; have HO_6 := n1_; have HO_32 := n2_; have HO_40 := n3_; have BK182 := n4_; have BK183 := n5_; have HB := n6_; have BK185 := n7_; have GW185 := n8_; have GE185 := n9_; have NB182_185 := n10_; have NB185_182 := n11_; have NB183_185 := n12_; have NB185_183 := n13_; clear n0_ n1_ n2_ n3_ n4_ n5_ n6_ n7_ n8_ n9_ n10_ n11_ n12_ n13_ hb hbox hg; have hnb51 := NB185_182.out; have hnc51 := NB182_185.out; have hnb52 := NB185_183.out; have hnc52 := NB183_185.out; have hcz53_0 : w50.cell? ⟨gb185, 0, none⟩ = some (.int .i64 0) := (kC BK185.out 0).trans rfl; have hcz53_1 : w50.cell? ⟨gb185, 1, none⟩ = some (.int .i64 0) := (kC BK185.out 1).trans rfl; have hfz53_0 := kF BK185.out 0; have hfz53_1 := kF BK185.out 1; have hnb54 := NB182_183.out; have hnc54 := NB183_182.out; have hcz55_0 : w50.cell? ⟨gb182, 0, none⟩ = some (.int .i64 ((rd_T35 t175 x34_2).f0.f0)) := (kC BK182.out 0).trans rfl; have hcz55_1 : w50.cell? ⟨gb182, 1, none⟩ = some (.int .i64 ((rd_T35 t175 x34_2).f0.f1)) := (kC BK182.out 1).trans rfl; have hcz55_2 : w50.cell? ⟨gb182, 2, none⟩ = some (.int .i64 ((rd_T35 t175 x34_2).f1.f0)) := (kC BK182.out 2).trans rfl; have hcz55_3 : w50.cell? ⟨gb182, 3, none⟩ = some (.int .i64 ((rd_T35 t175 x34_2).f1.f1)) := (kC BK182.out 3).trans rfl; have hfz55_0 := kF BK182.out 0; have hfz55_1 := kF BK182.out 1; have hfz55_2 := kF BK182.out 2; have hfz55_3 := kF BK182.out 3) | ((with_reducible refine gate_callee (f := 43) rfl ?_); refine goesL_ (some 51) rfl rfl Try.func43 (by kernel_rfl) rfl #[.agg #[.int .i64 ((rd_T33 t172 x42_3).f0), .int .i64 ((rd_T33 t172 x42_3).f1)], .agg #[.int .i64 ((rd_T35 t175 x34_2).f0.f0), .int .i64 ((rd_T35 t175 x34_2).f0.f1)], .agg #[.int .i64 ((rd_T35 t175 x34_2).f1.f0), .int .i64 ((rd_T35 t175 x34_2).f1.f1)]] rfl (by (try simp only [List.map_toArray, List.map_cons, List.map_nil]); first | done | rfl | (simp only [List.length_drop, List.length_take]; rfl)) ?_; (with_reducible refine (seg_Within.calls k3 ((rd_T33 t172 x42_3).f0) ((rd_T33 t172 x42_3).f1) ((rd_T35 t175 x34_2).f0.f0) ((rd_T35 t175 x34_2).f0.f1) ((rd_T35 t175 x34_2).f1.f0) ((rd_T35 t175 x34_2).f1.f1) false _ A35.out).mono ?_); rintro e w56 ⟨rfl, hb⟩; refine ⟨_, rfl, ?_⟩; have n0_ := aM (rB (by (with_reducible repeat (first | apply rA | apply rN | apply rD)); exact (rM (Kd.R_far (p := ⟨gb185, 1, none⟩) (Kd.R_far (p := ⟨gb185, 0, none⟩) (rM HO_3.out (fun k_ hk => (⟨hk, hk.2⟩ : _ ∧ k_ ≠ gb185))) (fun _ hk => hk.2) (.int .i64 ((rd_T33 t172 x42_3).f0))) (fun _ hk => hk.2) (.int .i64 ((rd_T33 t172 x42_3).f1))) (fun _ h_ => h_.1))) hb); have n1_ := aM (rB (by (with_reducible repeat (first | apply rA | apply rN | apply rD)); exact (rM (Kd.R_far (p := ⟨gb185, 1, none⟩) (Kd.R_far (p := ⟨gb185, 0, none⟩) (Kd.R_types HO_6.out BK185.out (by decide)) (fun _ hk => hk.2) (.int .i64 ((rd_T33 t172 x42_3).f0))) (fun _ hk => hk.2) (.int .i64 ((rd_T33 t172 x42_3).f1))) (fun _ h_ => h_.1))) hb); have n2_ := aM (rB (by (with_reducible repeat (first | apply rA | apply rN | apply rD)); exact (rM (Kd.R_far (p := ⟨gb185, 1, none⟩) (Kd.R_far (p := ⟨gb185, 0, none⟩) (Kd.R_types HO_32.out BK185.out (by decide)) (fun _ hk => hk.2) (.int .i64 ((rd_T33 t172 x42_3).f0))) (fun _ hk => hk.2) (.int .i64 ((rd_T33 t172 x42_3).f1))) (fun _ h_ => h_.1))) hb); have n3_ := aM (rB (by (with_reducible repeat (first | apply rA | apply rN | apply rD)); exact (rM (Kd.R_far (p := ⟨gb185, 1, none⟩) (Kd.R_far (p := ⟨gb185, 0, none⟩) (rM HO_40.out (fun k_ hk => (⟨hk, hk.2⟩ : _ ∧ k_ ≠ gb185))) (fun _ hk => hk.2) (.int .i64 ((rd_T33 t172 x42_3).f0))) (fun _ hk => hk.2) (.int .i64 ((rd_T33 t172 x42_3).f1))) (fun _ h_ => h_.1))) hb); have n4_ := aM (kB (g := gb182) (o := .cells #[.int .i64 ((rd_T35 t175 x34_2).f0.f0), .int .i64 ((rd_T35 t175 x34_2).f0.f1), .int .i64 ((rd_T35 t175 x34_2).f1.f0), .int .i64 ((rd_T35 t175 x34_2).f1.f1)] 35 (0, 0)) (by (with_reducible repeat (first | refine kN ?_ _ | refine kD ?_ | refine kA ?_ _)); refine blk_far ?_ NB182_185.out _; (with_reducible repeat (first | refine kN ?_ _ | refine kD ?_ | refine kA ?_ _)); refine blk_far ?_ NB182_185.out _; (with_reducible repeat (first | refine kN ?_ _ | refine kD ?_ | refine kA ?_ _)); exact BK182.out) hb); have n5_ := aM (kB (g := gb183) (o := .cells #[.int .i64 x184000_3, .int .i64 x184001_3] 33 (0, 0)) (by (with_reducible repeat (first | refine kN ?_ _ | refine kD ?_ | refine kA ?_ _)); refine blk_far ?_ NB183_185.out _; (with_reducible repeat (first | refine kN ?_ _ | refine kD ?_ | refine kA ?_ _)); refine blk_far ?_ NB183_185.out _; (with_reducible repeat (first | refine kN ?_ _ | refine kD ?_ | refine kA ?_ _)); exact BK183.out) hb); have n6_ := aM (kB (g := gb185) (o := .cells #[.int .i64 ((rd_T33 t172 x42_3).f0), .int .i64 ((rd_T33 t172 x42_3).f1)] 33 (0, 0)) (by (with_reducible repeat (first | refine kN ?_ _ | refine kD ?_ | refine kA ?_ _)); refine kP (cs := #[.int .i64 ((rd_T33 t172 x42_3).f0), .int .i64 0]) ?_ 1 _ rfl; (with_reducible repeat (first | refine kN ?_ _ | refine kD ?_ | refine kA ?_ _)); refine kP (cs := #[.int .i64 0, .int .i64 0]) ?_ 0 _ rfl; (with_reducible repeat (first | refine kN ?_ _ | refine kD ?_ | refine kA ?_ _)); exact BK185.out) hb); have n7_ := aM (bS (bl) hb); clear HO_3 HO_6 HO_32 HO_40 BK182 BK183 BK185 HB; have HO_3 := n0_; have HO_6 := n1_; have HO_32 := n2_; have HO_40 := n3_; have BK182 := n4_; have BK183 := n5_; have BK185 := n6_; have HB := n7_; clear n0_ n1_ n2_ n3_ n4_ n5_ n6_ n7_; (try clear hb); (try clear hb2); (try clear hk); (try clear hi)))
               go_roundg k3
               case measure => have := HK1.out; have := HK2.out; have := HK3.out; omega
               case rel => exact ⟨(x6_3), (wrap64 (x42_3 + 1)), (x184000_3), (x184001_3), (by first | rfl | (simp; done) | (simp [*]; done)), H', ⟨by have := HK1.out; have := HK2.out; have := HK3.out; omega⟩, ⟨by (with_reducible repeat (first | apply rA | apply rN | apply rD)); exact rM HO_3.out (fun _ hk => hk.1)⟩, ⟨by (with_reducible repeat (first | apply rA | apply rN | apply rD)); exact HO_6.out⟩, ⟨by (with_reducible repeat (first | apply rA | apply rN | apply rD)); exact HO_32.out⟩, ⟨by (with_reducible repeat (first | apply rA | apply rN | apply rD)); exact rM HO_40.out (fun _ hk => hk.1)⟩, ⟨by (with_reducible repeat (first | refine kN ?_ _ | refine kD ?_ | refine kA ?_ _)); exact BK182.out⟩, ⟨by (with_reducible repeat (first | refine kN ?_ _ | refine kD ?_ | refine kA ?_ _)); exact BK183.out⟩, ⟨bl⟩⟩
             ·rw [if_neg c34] at H
              exact absurd H (by simp)
            ·rw [if_neg c33] at H
             exact absurd H (by simp)
           ·rw [if_neg c32] at H
            have c32b0 : decide (x42_3 < (t172.length : Int)) = false := decide_eq_false c32
            clear c32
            by_cases c57 : x6_3.length < 4398046511104
            ·rw [if_pos c57] at H
             have LMc57 := aM c57
             clear c57
             obtain ⟨y190, hy190⟩ : ∃ y_ : List (S35), y_ = (x6_3 ++ [(⟨(⟨x184000_3, x184001_3⟩ : S33), (⟨((rd_T35 t175 x34_2).f1.f0), ((rd_T35 t175 x34_2).f1.f1)⟩ : S33)⟩ : S35)]) := ⟨_, rfl⟩
             replace H : (noding_Split.l1 k3 t172 y190 t175 (t175.length : Int) (wrap64 (x34_2 + 1))) = some r := by first | (rw [hy190]; with_reducible exact H) | (have H2_ := (Option.bind_some _ _).symm.trans H; rw [hy190]; with_reducible exact H2_) | (have H2_ := (Option.bind_some _ _).symm.trans H; with_reducible exact H2_) | with_reducible exact H | (rw [hy190]; exact H) | exact H
             have Ny190 := aM hy190
             clear hy190
             have H' := aM H
             clear H
             have hnb58 := NB183_182.out
             have hnc58 := NB182_183.out
             have hcz59_0 : wr.cell? ⟨gb183, 0, none⟩ = some (.int .i64 x184000_3) := (kC BK183.out 0).trans rfl
             have hcz59_1 : wr.cell? ⟨gb183, 1, none⟩ = some (.int .i64 x184001_3) := (kC BK183.out 1).trans rfl
             have hfz59_0 := kF BK183.out 0
             have hfz59_1 := kF BK183.out 1
             have hcz60_0 : wr.cell? ⟨gb182, 0, none⟩ = some (.int .i64 ((rd_T35 t175 x34_2).f0.f0)) := (kC BK182.out 0).trans rfl
             have hcz60_1 : wr.cell? ⟨gb182, 1, none⟩ = some (.int .i64 ((rd_T35 t175 x34_2).f0.f1)) := (kC BK182.out 1).trans rfl
             have hcz60_2 : wr.cell? ⟨gb182, 2, none⟩ = some (.int .i64 ((rd_T35 t175 x34_2).f1.f0)) := (kC BK182.out 2).trans rfl
             have hcz60_3 : wr.cell? ⟨gb182, 3, none⟩ = some (.int .i64 ((rd_T35 t175 x34_2).f1.f1)) := (kC BK182.out 3).trans rfl
             have hfz60_0 := kF BK182.out 0
             have hfz60_1 := kF BK182.out 1
             have hfz60_2 := kF BK182.out 2
             have hfz60_3 := kF BK182.out 3
             go_wp2_with (first | ((with_reducible refine gate_builtin (b := .append) (xs := #[.tmp 60, .tmp 65]) rfl ?_); at_builtin; refine Kd.R_append k35 (w0 := w) w.heap.size rfl (.tmp 60) (.tmp 65) 23 35 (.agg #[(.int .i64 0), (.int .i64 0), (.int .i64 0), (.int .i64 0)]) 32 rfl Try.underlying23 info35 rfl (by decide) (by omega) u6 x6_3 (⟨(⟨x184000_3, x184001_3⟩ : S33), (⟨((rd_T35 t175 x34_2).f1.f0), ((rd_T35 t175 x34_2).f1.f1)⟩ : S33)⟩ : S35) [.int .i64 x184000_3, .int .i64 x184001_3, .int .i64 ((rd_T35 t175 x34_2).f1.f0), .int .i64 ((rd_T35 t175 x34_2).f1.f1)] (fun k_ => some k_ ≠ (.slice (some ad181) t175.length co22 : Value).ownBlock ∧ k_ ≠ gb182) (fun _ => False) rfl rfl ?aP (fun _ hk => hk.elim) ?aF ?aO ?aB ?aS ?aL ?_; (case aP => exact k35_mkM _ _ _ (⟨(⟨x184000_3, x184001_3⟩ : S33), (⟨((rd_T35 t175 x34_2).f1.f0), ((rd_T35 t175 x34_2).f1.f1)⟩ : S33)⟩ : S35)); (case aB => exact (bl)); (case aF => exact (fun k_ hk => ⟨Kd.fresh' (Kd.R_lt (rl HO_32)) k_ hk, Kd.freshB (g := gb182) (o := .cells #[.int .i64 ((rd_T35 t175 x34_2).f0.f0), .int .i64 ((rd_T35 t175 x34_2).f0.f1), .int .i64 ((rd_T35 t175 x34_2).f1.f0), .int .i64 ((rd_T35 t175 x34_2).f1.f1)] 35 (0, 0)) (kl BK182) k_ hk⟩)); (case aO => exact (rl HO_6)); (case aS => exact (below_size (bl))); (case aL => have := LMc57.out; omega); intro v191 w61 ho hb hg hat; rw [← Ny190.out] at ho; have n0_ := aM (Kd.R_over' (rl HO_3) (Kd.R_typed (rl HO_6)) (by decide) hg); have n1_ := aM (Kd.R_after (ok := (fun k_ => k_ ≠ gb182)) (by (with_reducible repeat (first | apply rA | apply rN | apply rD)); exact rM HO_32.out (fun _ hk => ⟨hk.2, hk.1⟩)) hg hat); have n2_ := aM (Kd.R_over' (rl HO_40) (Kd.R_typed (rl HO_6)) (by decide) hg); have n3_ := aM (blk_grown (g := gb182) (o := .cells #[.int .i64 ((rd_T35 t175 x34_2).f0.f0), .int .i64 ((rd_T35 t175 x34_2).f0.f1), .int .i64 ((rd_T35 t175 x34_2).f1.f0), .int .i64 ((rd_T35 t175 x34_2).f1.f1)] 35 (0, 0)) (kl BK182) hg (Kd.R_away HO_6.out (fun _ hk => hk.2))); have n4_ := aM (blk_grown (g := gb183) (o := .cells #[.int .i64 x184000_3, .int .i64 x184001_3] 33 (0, 0)) (kl BK183) hg (Kd.R_ne HO_6.out BK183.out (by decide))); have n5_ := aM (hb); have n6_ := aM (ho); clear HO_3 HO_32 HO_40 BK182 BK183 HB HO_6; have HO_3 := n0_; have HO_32 := n1_; have HO_40 := n2_; have BK182 := n3_; have BK183 := n4_; have HB := n5_; have HO192 := n6_; clear n0_ n1_ n2_ n3_ n4_ n5_ n6_ ho hb hg hat))
             go_roundg k3
             case measure => have := HK1.out; have := HK2.out; have := HK3.out; omega
             case rel => exact ⟨(y190), (wrap64 (x34_2 + 1)), (by first | rfl | (simp; done) | (simp [*]; done)), H', ⟨by have := HK1.out; have := HK2.out; have := HK3.out; omega⟩, ⟨by (with_reducible repeat (first | apply rA | apply rN | apply rD)); exact rM HO_3.out (fun _ hk => trivial)⟩, ⟨by (with_reducible repeat (first | apply rA | apply rN | apply rD)); exact rM HO192.out (fun _ hk => hk.1)⟩, ⟨by (with_reducible repeat (first | apply rA | apply rN | apply rD)); exact rM HO_32.out (fun _ hk => hk.2)⟩, ⟨bl⟩⟩
            ·rw [if_neg c57] at H
             exact absurd H (by simp)
        ·rw [if_neg c25] at H
         exact absurd H (by simp)
       ·rw [if_neg c24] at H
        exact absurd H (by simp)
      ·rw [if_neg c23] at H
       have c23b0 : decide (x34_2 < (t175.length : Int)) = false := decide_eq_false c23
       clear c23
       replace H := Option.bind_eq_some_iff.mp H
       obtain ⟨t178, A620, H⟩ := H
       try dsimp only at H
       have A62 := aM A620
       clear A620
       obtain rfl := Option.some.inj H
       obtain ⟨Ao63, co63, eo63⟩ := Kd.R_slice HO_6.out
       subst eo63
       go_wp2_with (first | ((with_reducible refine gate_callee (f := 13) rfl ?_); refine goesL_ (some 69) rfl rfl Try.func13 (by kernel_rfl) rfl #[.slice Ao63 x6_2.length co63] rfl (by (try simp only [List.map_toArray, List.map_cons, List.map_nil]); first | done | rfl | (simp only [List.length_drop, List.length_take]; rfl)) ?_; (with_reducible refine (noding_Sort.calls k2 _ _ x6_2 t178 _ ?side1 ?side2 A62.out).mono ?_); (case side1 => repeat (first | exact (rR HO_6.out).2.2 | (with_reducible refine cA ?_ _) | (with_reducible refine cN ?_ _) | (with_reducible refine cD ?_))); (case side2 => exact (rR HO_6.out).2.1); rintro e w64 ⟨v179, rfl, ho0, hb⟩; refine ⟨_, rfl, ?_⟩; replace HO_3 := aM (rB (rl HO_3) hb); have HO180 := aM (Kd.R_lower (Kd.R_new' (Kd.R_new' ho0 (Kd.R_lt (rl HO_6))) (Kd.R_lt (rl HO_32))) (below_size (bl))); replace HO_6 := aM (rE (rl HO_6) (Kd.R_base ho0) hb); replace HO_32 := aM (rE (rl HO_32) (Kd.R_base ho0) hb); replace HB := aM (bS (bl) hb); (try clear hb); (try clear hb2); (try clear hk); (try clear hi); (try clear ho0)))
       go_ret
       exact ⟨_, by first | rfl | (simp [errW_none, errW_some] <;> rfl) | (simp [*, errW_none, errW_some] <;> rfl), by (with_reducible repeat (first | apply rA | apply rN | apply rD)); exact rM HO180.out (fun _ hk => trivial), bl⟩
def seg_sign.f (a0 : Int) : Option (Int) := some (mn 1 (mx (-1) a0))
set_option maxHeartbeats 8000000 in
set_option maxRecDepth 100000 in
theorem seg_sign.calls (a0 : Int) (r : Int) (w : World) (h : seg_sign.f a0 = some r) :
  Calls Try.prog 63 #[.int .i64 a0] w fun e w' => e = .returned (.int .i64 r) ∧ Below w.heap.size w w' := by
 have HB := aM (Below.refl w.heap.size w)
 have H : (some (mn 1 (mx (-1) a0))) = some r := h
 clear h
 obtain ⟨ji2, hji2⟩ : ∃ j_ : Int, (mx (-1) a0) = j_ := ⟨_, rfl⟩
 replace H : (some (mn 1 (ji2))) = some r := by first | (rw [hji2] at H; exact H) | (simp only [hji2] at H ⊢; exact H)
 have hji2_ : (if (-1) < a0 then a0 else (-1)) = ji2 := hji2
 obtain ⟨ji3, hji3⟩ : ∃ j_ : Int, (mn 1 (ji2)) = j_ := ⟨_, rfl⟩
 replace H : (some ji3) = some r := by first | (rw [hji3] at H; exact H) | (simp only [hji3] at H ⊢; exact H)
 have hji3_ : (if (ji2) < 1 then (ji2) else 1) = ji3 := hji3
 obtain rfl := Option.some.inj H
 go_enter Try.func63, Try.ntmps63
 go_wp2
 go_ret
 exact ⟨by first | rfl | (simp [errW_none, errW_some] <;> rfl) | (simp only [← hji2, ← hji3]; first | rfl | (simp [errW_none, errW_some] <;> rfl)) | (simp [*, errW_none, errW_some] <;> rfl), bl⟩
end Go.Proofs.Ytmejeiddlhjjmaa.PNodingCrosses
