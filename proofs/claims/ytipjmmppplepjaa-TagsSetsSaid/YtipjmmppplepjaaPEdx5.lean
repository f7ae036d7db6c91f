-- out of a driver of this session's prover over the kit's print: Lean checks it
import Derived.Test.YtipjmmppplepjaaPEdx0
import Derived.Test.YtipjmmppplepjaaPEdx2
import Derived.Test.YtipjmmppplepjaaPEdx3
import Derived.Test.YtipjmmppplepjaaPEdx4
namespace Go.Proofs.Ytipjmmppplepjaa.PEd
open Go.Proofs.YtipjmmppplepjaaG Go.Shelf Go.Lib
open Go.RowKit Go.Proofs.YtipjmmppplepjaaW.PrintWords Go.Proofs.YtipjmmppplepjaaW.PrintLast Go.Proofs.YtipjmmppplepjaaW.PrintMore
attribute [local go_sem] max2_int min2_int max_two min_two max_three min_three max_four min_four   -- for this text's walks alone
set_option linter.unusedVariables false
set_option linter.unusedSimpArgs false

/-! ### mapmakerref06_Set: function 21 -/
mutual
def mapmakerref06_Set.l0 : Nat → List (S34) → ByteArray → ByteArray → List (S34) → Bool → Bool → Int → Option ((List (S34)))
  | 0, _, _, _, _, _, _, _ => none
  | k + 1, x0, x1, x2, x7, x9, x10, x11 => if x11 < (x0.length : Int) then (if x9 = true then (if 0 ≤ x11 then (mapmakerref06_Set.j1 k x0 x1 x2 x7 x9 x10 x11 (((rd_T34 x0 x11).f0).toList == x1.toList)) else (none)) else (mapmakerref06_Set.j1 k x0 x1 x2 x7 x9 x10 x11 false)) else (if x10 = true then (some x7) else (if x7.length < 4398046511104 then (some (x7 ++ [(⟨x1, x2⟩ : S34)])) else (none)))
def mapmakerref06_Set.j1 : Nat → List (S34) → ByteArray → ByteArray → List (S34) → Bool → Bool → Int → Bool → Option ((List (S34)))
  | 0, _, _, _, _, _, _, _, _ => none
  | k + 1, x0, x1, x2, x7, x9, x10, x11, x33 => if x33 = true then (if x10 = true then (mapmakerref06_Set.l0 k x0 x1 x2 x7 x9 true (wrap64 (x11 + 1))) else (if x7.length < 4398046511104 then (mapmakerref06_Set.l0 k x0 x1 x2 (x7 ++ [(⟨x1, x2⟩ : S34)]) x9 true (wrap64 (x11 + 1))) else (none))) else (if x9 = true then (if 0 ≤ x11 then (if x11 < (x0.length : Int) then (if x7.length < 4398046511104 then (mapmakerref06_Set.l0 k x0 x1 x2 (x7 ++ [(⟨(rd_T34 x0 x11).f0, (rd_T34 x0 x11).f1⟩ : S34)]) x9 x10 (wrap64 (x11 + 1))) else (none)) else (none)) else (none)) else (if x10 = true then (if 0 ≤ x11 then (if x11 < (x0.length : Int) then (if x7.length < 4398046511104 then (mapmakerref06_Set.l0 k x0 x1 x2 (x7 ++ [(⟨(rd_T34 x0 x11).f0, (rd_T34 x0 x11).f1⟩ : S34)]) x9 x10 (wrap64 (x11 + 1))) else (none)) else (none)) else (none)) else (if 0 ≤ x11 then (if x11 < (x0.length : Int) then (if (Op.bytesLess x1.toList (((rd_T34 x0 x11).f0).toList)) = true then (if x7.length < 4398046511104 then ((some (x7 ++ [(⟨x1, x2⟩ : S34)] : List (S34))).bind fun y165 => (if y165.length < 4398046511104 then (mapmakerref06_Set.l0 k x0 x1 x2 (y165 ++ [(⟨(rd_T34 x0 x11).f0, (rd_T34 x0 x11).f1⟩ : S34)]) x9 true (wrap64 (x11 + 1))) else (none))) else (none)) else (if x7.length < 4398046511104 then (mapmakerref06_Set.l0 k x0 x1 x2 (x7 ++ [(⟨(rd_T34 x0 x11).f0, (rd_T34 x0 x11).f1⟩ : S34)]) x9 x10 (wrap64 (x11 + 1))) else (none))) else (none)) else (none))))
end
def mapmakerref06_Set.f (k : Nat) (l0 : List (S34)) (a1 : ByteArray) (a2 : ByteArray) : Option ((List (S34))) := (mapmakerref06_Get.f k l0 a1).bind fun bt147 => (mapmakerref06_Set.l0 k l0 a1 a2 ([] : List (S34)) bt147.2 false 0)
theorem mapmakerref06_Set.mono_l : ∀ k, (∀ y0 y1 y2 y3 y4 y5 y6, LeO (mapmakerref06_Set.l0 k y0 y1 y2 y3 y4 y5 y6) (mapmakerref06_Set.l0 (k + 1) y0 y1 y2 y3 y4 y5 y6)) ∧ (∀ y0 y1 y2 y3 y4 y5 y6 y7, LeO (mapmakerref06_Set.j1 k y0 y1 y2 y3 y4 y5 y6 y7) (mapmakerref06_Set.j1 (k + 1) y0 y1 y2 y3 y4 y5 y6 y7))
  | 0 => ⟨fun _ _ _ _ _ _ _ r h => by simp [mapmakerref06_Set.l0] at h, fun _ _ _ _ _ _ _ _ r h => by simp [mapmakerref06_Set.j1] at h⟩
  | k + 1 => by
    obtain ⟨ih0, ih1⟩ := mapmakerref06_Set.mono_l k
    refine ⟨?_, ?_⟩
    · intro y0 y1 y2 y3 y4 y5 y6
      unfold mapmakerref06_Set.l0
      repeat' first
      | (with_reducible exact ih0 _ _ _ _ _ _ _)
      | (with_reducible exact ih1 _ _ _ _ _ _ _ _)
      | (with_reducible exact mapmakerref06_Get.mono _ _ _)
      | (with_reducible exact LeO.refl _)
      | (with_reducible exact LeO.none _)
      | (with_reducible refine LeO.ite ?_ ?_)
      | (with_reducible refine LeO.bind ?_ (fun _ => ?_))
      | exact ih0 _ _ _ _ _ _ _
      | exact ih1 _ _ _ _ _ _ _ _
      | exact mapmakerref06_Get.mono _ _ _
      | exact LeO.none _
      | refine LeO.ite ?_ ?_
      | refine LeO.bind ?_ (fun _ => ?_)
    · intro y0 y1 y2 y3 y4 y5 y6 y7
      unfold mapmakerref06_Set.j1
      repeat' first
      | (with_reducible exact ih0 _ _ _ _ _ _ _)
      | (with_reducible exact ih1 _ _ _ _ _ _ _ _)
      | (with_reducible exact mapmakerref06_Get.mono _ _ _)
      | (with_reducible exact LeO.refl _)
      | (with_reducible exact LeO.none _)
      | (with_reducible refine LeO.ite ?_ ?_)
      | (with_reducible refine LeO.bind ?_ (fun _ => ?_))
      | exact ih0 _ _ _ _ _ _ _
      | exact ih1 _ _ _ _ _ _ _ _
      | exact mapmakerref06_Get.mono _ _ _
      | exact LeO.none _
      | refine LeO.ite ?_ ?_
      | refine LeO.bind ?_ (fun _ => ?_)
theorem mapmakerref06_Set.mono : ∀ a0 a1 a2 k, LeO (mapmakerref06_Set.f k a0 a1 a2) (mapmakerref06_Set.f (k + 1) a0 a1 a2) := by
  intro a0 a1 a2 k
  obtain ⟨ih0, ih1⟩ := mapmakerref06_Set.mono_l k
  unfold mapmakerref06_Set.f
  repeat' first
      | (with_reducible exact ih0 _ _ _ _ _ _ _)
      | (with_reducible exact ih1 _ _ _ _ _ _ _ _)
      | (with_reducible exact mapmakerref06_Get.mono _ _ _)
      | (with_reducible exact LeO.refl _)
      | (with_reducible exact LeO.none _)
      | (with_reducible refine LeO.ite ?_ ?_)
      | (with_reducible refine LeO.bind ?_ (fun _ => ?_))
      | exact ih0 _ _ _ _ _ _ _
      | exact ih1 _ _ _ _ _ _ _ _
      | exact mapmakerref06_Get.mono _ _ _
      | exact LeO.none _
      | refine LeO.ite ?_ ?_
      | refine LeO.bind ?_ (fun _ => ?_)
set_option maxHeartbeats 8000000 in
set_option maxRecDepth 100000 in
theorem mapmakerref06_Set.calls (k : Nat) (A0 : Option Addr) (c0 : Nat) (l0 : List (S34)) (a1 : ByteArray) (a2 : ByteArray) (r : List (S34)) (w : World) (hr0 : Kd.C k34 w A0 l0.length l0) (hc0 : l0.length ≤ c0) (h : mapmakerref06_Set.f k l0 a1 a2 = some r) :
    Calls Try.prog 21 #[.slice A0 l0.length c0, .string a1, .string a2] w fun e w' => ∃ v0_ : Value, e = .returned (v0_) ∧ Kd.R k34 34 w' w.heap.size (fun _ => True) v0_ r ∧ Below w.heap.size w w' := by
  have hu34 := Try.underlying34
  have HR0 := Aside0.mk hr0
  have HC0 := Aside0.mk hc0
  clear hr0 hc0
  have HB := Aside0.mk (Below.refl w.heap.size w)
  have H : ((mapmakerref06_Get.f k l0 a1).bind fun bt147 => (mapmakerref06_Set.l0 k l0 a1 a2 ([] : List (S34)) bt147.2 false 0)) = some r := h
  clear h
  replace H := Option.bind_eq_some_iff.mp H
  obtain ⟨⟨t147, t148⟩, A40, H⟩ := H
  replace H : (mapmakerref06_Set.l0 k l0 a1 a2 ([] : List (S34)) t148 false 0) = some r := H
  have A4 := Aside0.mk A40
  clear A40
  have H' := Aside0.mk H
  clear H
  go_enter Try.func21, Try.ntmps21
  go_wp2_with (first | ((with_reducible refine gate_callee (f := 16) rfl ?_); refine goesL_ (some 15) rfl rfl Try.func16 (by kernel_rfl) rfl #[.slice A0 l0.length c0, .string a1] rfl (by (try simp only [List.map_toArray, List.map_cons, List.map_nil]); first | done | rfl | (simp only [List.length_drop, List.length_take]; rfl)) ?_; (with_reducible refine (mapmakerref06_Get.calls k _ _ l0 a1 t147 t148 _ ?side1 ?side2 A4.out).mono ?_); (case side1 => repeat (first | exact HR0.out | (with_reducible refine Kd.C_alloc ?_ _) | (with_reducible refine Kd.C_drewN ?_ _) | (with_reducible refine Kd.C_drew ?_))); (case side2 => exact HC0.out); rintro e w' ⟨rfl, ⟨nd, rfl⟩⟩; refine ⟨_, rfl, ?_⟩))
  go_loopg [7, 10, 11] k (fun kq v7 v10 v11 w' => ∃ (x7_1 : List (S34)) (x10_1 : Bool) (x11_1 : Int), v10 = .bool x10_1 ∧ v11 = .int .i64 x11_1 ∧ Aside0 (mapmakerref06_Set.l0 kq l0 a1 a2 x7_1 t148 x10_1 x11_1 = some r) ∧ Aside0 (kq ≤ k) ∧ Aside0 (Kd.R k34 34 w' w.heap.size (fun _ => True) v7 x7_1) ∧ Aside0 (Below w.heap.size w w'))
  case atStart => exact ⟨(([] : List (S34))), (false), (0), (by first | rfl | (simp; done) | (simp [*]; done)), (by first | rfl | (simp; done) | (simp [*]; done)), H', ⟨Nat.le_refl _⟩, ⟨by first | exact Kd.R_nil _ _ _ _ _ | exact Kd.N_nil _ _ _ _ _ | exact Kd.V_nil _ _ _ _ _ | exact Kd.Q_nil _ _ _ _ _ | exact Kd.S_nil _ _ _ _ _⟩, ⟨by repeat (first | (with_reducible first | exact HB.out | apply below_alloc | apply pw_below_drewN | apply below_drew1) | exact HB.out)⟩⟩
  case round =>
    clear H'
    try clear c1
    try clear c2
    try clear p2
    obtain ⟨x7_1, x10_1, x11_1, rfl, rfl, HA, HK1, HO_7, HB⟩ := hrel
    cases gk with
    | zero => exact absurd HA.out (by simp [mapmakerref06_Set.l0])
    | succ k1 =>
      have H := HA.out
      clear HA
      simp only [mapmakerref06_Set.l0] at H
      by_cases c5 : x11_1 < (l0.length : Int)
      · rw [if_pos c5] at H
        have c5b0 : decide (x11_1 < (l0.length : Int)) = true := decide_eq_true c5
        clear c5
        have HC6 := Aside0.mk H
        clear H
        go_upto_region 7 with (fail)
        go_cut [33] (fun v33 wc => ∃ (kq : Nat) (x33_5 : Bool), v33 = .bool x33_5 ∧ Aside0 (mapmakerref06_Set.j1 kq l0 a1 a2 x7_1 t148 x10_1 x11_1 x33_5 = some r) ∧ Aside0 (kq ≤ k1) ∧ Aside0 (Kd.R k34 34 wc w.heap.size (fun _ => True) u7 x7_1) ∧ Aside0 (Below w.heap.size w wc))
        case first =>
          have H := HC6.out
          clear HC6
          by_cases c7 : t148 = true
          · subst c7
            have H1 : (if 0 ≤ x11_1 then (mapmakerref06_Set.j1 k1 l0 a1 a2 x7_1 true x10_1 x11_1 (((rd_T34 l0 x11_1).f0).toList == a1.toList)) else (none)) = some r := by rw [if_pos rfl] at H; exact H
            clear H
            have H := H1
            clear H1
            by_cases c8 : 0 ≤ x11_1
            · rw [if_pos c8] at H
              have c8b0 : decide (0 ≤ x11_1) = true := decide_eq_true c8
              clear c8
              (first | rw [c8b0] | (simp only [i64_w, i32_w]; rw [c8b0]) | skip)
              have H' := Aside0.mk H
              clear H
              have p152 : 0 ≤ (x11_1 : Int) := of_decide_eq_true (by first | (with_reducible assumption) | assumption)
              have q152 : x11_1 < (l0.length : Int) := of_decide_eq_true (by first | (with_reducible assumption) | assumption)
              obtain ⟨ad152, e152, hx152_0, hx152_1⟩ := at_T34 HR0.out x11_1 p152 q152
              cases e152
              replace hx152_0 := (HB.out.cell (World.block_lt_of_cell? w _ hx152_0)).trans hx152_0
              replace hx152_1 := (HB.out.cell (World.block_lt_of_cell? w _ hx152_1)).trans hx152_1
              replace p152 := eq_true p152
              replace q152 := eq_true q152
              go_wp2
              go_meet
              case rel => exact ⟨_, ((((rd_T34 l0 x11_1).f0).toList == a1.toList)), (by first | rfl | (simp; done) | (simp [*]; done)), H', ⟨by have := HK1.out; first | omega | exact Nat.le_refl _⟩, ⟨by (with_reducible repeat (first | apply Kd.R_alloc | apply Kd.R_drewN | apply Kd.R_drew)); exact HO_7.out⟩, ⟨by repeat (first | (with_reducible first | exact HB.out | apply below_alloc | apply pw_below_drewN | apply below_drew1) | exact HB.out)⟩⟩
            · rw [if_neg c8] at H
              exact absurd H (by simp)
          · replace c7 := Bool.eq_false_iff.mpr c7
            subst c7
            have H1 : (mapmakerref06_Set.j1 k1 l0 a1 a2 x7_1 false x10_1 x11_1 false) = some r := by rw [if_neg (show ¬ (false = true) by decide)] at H; exact H
            clear H
            have H := H1
            clear H1
            have H' := Aside0.mk H
            clear H
            go_wp2
            go_meet
            case rel => exact ⟨_, (false), (by first | rfl | (simp; done) | (simp [*]; done)), H', ⟨by have := HK1.out; first | omega | exact Nat.le_refl _⟩, ⟨by (with_reducible repeat (first | apply Kd.R_alloc | apply Kd.R_drewN | apply Kd.R_drew)); exact HO_7.out⟩, ⟨by repeat (first | (with_reducible first | exact HB.out | apply below_alloc | apply pw_below_drewN | apply below_drew1) | exact HB.out)⟩⟩
        case rest =>
          clear HC6
          try clear c1
          try clear p1
          try clear q1
          try clear hx1
          try clear c2
          try clear p2
          try clear c5
          try clear c5b0
          try clear c7
          try clear c8
          try clear c8b0
          try clear hx152_0
          try clear hx152_1
          try clear p152
          try clear p2
          try clear q152
          obtain ⟨kq, x33_5, rfl, HA, HJ5, HO_7, HB⟩ := hcut
          cases kq with
          | zero => exact absurd HA.out (by simp [mapmakerref06_Set.j1])
          | succ kj5 =>
            have H := HA.out
            clear HA
            simp only [mapmakerref06_Set.j1] at H
            by_cases c9 : x33_5 = true
            · subst c9
              have H1 : (if x10_1 = true then (mapmakerref06_Set.l0 kj5 l0 a1 a2 x7_1 t148 true (wrap64 (x11_1 + 1))) else (if x7_1.length < 4398046511104 then (mapmakerref06_Set.l0 kj5 l0 a1 a2 (x7_1 ++ [(⟨a1, a2⟩ : S34)]) t148 true (wrap64 (x11_1 + 1))) else (none))) = some r := by rw [if_pos rfl] at H; exact H
              clear H
              have H := H1
              clear H1
              by_cases c10 : x10_1 = true
              · subst c10
                have H1 : (mapmakerref06_Set.l0 kj5 l0 a1 a2 x7_1 t148 true (wrap64 (x11_1 + 1))) = some r := by rw [if_pos rfl] at H; exact H
                clear H
                have H := H1
                clear H1
                have H' := Aside0.mk H
                clear H
                go_wp2
                go_roundg kj5
                case measure => have := HK1.out; have := HJ5.out; omega
                case rel => exact ⟨(x7_1), (true), (wrap64 (x11_1 + 1)), (by first | rfl | (simp; done) | (simp [*]; done)), (by first | rfl | (simp; done) | (simp [*]; done)), H', ⟨by have := HK1.out; have := HJ5.out; omega⟩, ⟨by (with_reducible repeat (first | apply Kd.R_alloc | apply Kd.R_drewN | apply Kd.R_drew)); exact HO_7.out⟩, ⟨by repeat (first | (with_reducible first | exact HB.out | apply below_alloc | apply pw_below_drewN | apply below_drew1) | exact HB.out)⟩⟩
              · replace c10 := Bool.eq_false_iff.mpr c10
                subst c10
                have H1 : (if x7_1.length < 4398046511104 then (mapmakerref06_Set.l0 kj5 l0 a1 a2 (x7_1 ++ [(⟨a1, a2⟩ : S34)]) t148 true (wrap64 (x11_1 + 1))) else (none)) = some r := by rw [if_neg (show ¬ (false = true) by decide)] at H; exact H
                clear H
                have H := H1
                clear H1
                by_cases c11 : x7_1.length < 4398046511104
                · rw [if_pos c11] at H
                  have LMc11 := Aside0.mk c11
                  clear c11
                  obtain ⟨y153, hy153⟩ : ∃ y_ : List (S34), y_ = (x7_1 ++ [(⟨a1, a2⟩ : S34)]) := ⟨_, rfl⟩
                  replace H : (mapmakerref06_Set.l0 kj5 l0 a1 a2 y153 t148 true (wrap64 (x11_1 + 1))) = some r := by first | (rw [hy153]; with_reducible exact H) | (have H2_ := (Option.bind_some _ _).symm.trans H; rw [hy153]; with_reducible exact H2_) | (have H2_ := (Option.bind_some _ _).symm.trans H; with_reducible exact H2_) | with_reducible exact H | (rw [hy153]; exact H) | exact H
                  have Ny153 := Aside0.mk hy153
                  clear hy153
                  have H' := Aside0.mk H
                  clear H
                  go_wp2_with (first | ((with_reducible refine gate_builtin (b := .append) (xs := #[.tmp 36, .tmp 40]) rfl ?_); at_builtin; refine Kd.R_append k34 (w0 := w) w.heap.size rfl (.tmp 36) (.tmp 40) 22 34 (.agg #[(.string ⟨#[]⟩), (.string ⟨#[]⟩)]) 32 rfl Try.underlying22 info34 rfl (by decide) (by omega) u7 x7_1 (⟨a1, a2⟩ : S34) [.string a1, .string a2] (fun _ => True) (fun _ => False) rfl rfl ?aP (fun _ hk => hk.elim) ?aF ?aO ?aB ?aS ?aL ?_; (case aP => exact k34_mkM _ _ _ (⟨a1, a2⟩ : S34)); (case aB => exact (by repeat (first | (with_reducible first | exact HB.out | apply below_alloc | apply pw_below_drewN | apply below_drew1) | exact HB.out))); (case aF => exact (fun _ _ => trivial)); (case aO => exact (by (with_reducible repeat (first | apply Kd.R_alloc | apply Kd.R_drewN | apply Kd.R_drew)); exact HO_7.out)); (case aS => exact (below_size (by repeat (first | (with_reducible first | exact HB.out | apply below_alloc | apply pw_below_drewN | apply below_drew1) | exact HB.out)))); (case aL => have := LMc11.out; omega); intro v154 w12 ho hb hg hat; rw [← Ny153.out] at ho; have n0_ := Aside0.mk (hb); have n1_ := Aside0.mk (ho); clear HB; clear HO_7; have HB := n0_; have HO155 := n1_; clear n0_ n1_; clear ho hb hg hat))
                  go_roundg kj5
                  case measure => have := HK1.out; have := HJ5.out; omega
                  case rel => exact ⟨(y153), (true), (wrap64 (x11_1 + 1)), (by first | rfl | (simp; done) | (simp [*]; done)), (by first | rfl | (simp; done) | (simp [*]; done)), H', ⟨by have := HK1.out; have := HJ5.out; omega⟩, ⟨by (with_reducible repeat (first | apply Kd.R_alloc | apply Kd.R_drewN | apply Kd.R_drew)); exact HO155.out⟩, ⟨by repeat (first | (with_reducible first | exact HB.out | apply below_alloc | apply pw_below_drewN | apply below_drew1) | exact HB.out)⟩⟩
                · rw [if_neg c11] at H
                  exact absurd H (by simp)
            · replace c9 := Bool.eq_false_iff.mpr c9
              subst c9
              have H1 : (if t148 = true then (if 0 ≤ x11_1 then (if x11_1 < (l0.length : Int) then (if x7_1.length < 4398046511104 then (mapmakerref06_Set.l0 kj5 l0 a1 a2 (x7_1 ++ [(⟨(rd_T34 l0 x11_1).f0, (rd_T34 l0 x11_1).f1⟩ : S34)]) t148 x10_1 (wrap64 (x11_1 + 1))) else (none)) else (none)) else (none)) else (if x10_1 = true then (if 0 ≤ x11_1 then (if x11_1 < (l0.length : Int) then (if x7_1.length < 4398046511104 then (mapmakerref06_Set.l0 kj5 l0 a1 a2 (x7_1 ++ [(⟨(rd_T34 l0 x11_1).f0, (rd_T34 l0 x11_1).f1⟩ : S34)]) t148 x10_1 (wrap64 (x11_1 + 1))) else (none)) else (none)) else (none)) else (if 0 ≤ x11_1 then (if x11_1 < (l0.length : Int) then (if (Op.bytesLess a1.toList (((rd_T34 l0 x11_1).f0).toList)) = true then (if x7_1.length < 4398046511104 then ((some (x7_1 ++ [(⟨a1, a2⟩ : S34)] : List (S34))).bind fun y165 => (if y165.length < 4398046511104 then (mapmakerref06_Set.l0 kj5 l0 a1 a2 (y165 ++ [(⟨(rd_T34 l0 x11_1).f0, (rd_T34 l0 x11_1).f1⟩ : S34)]) t148 true (wrap64 (x11_1 + 1))) else (none))) else (none)) else (if x7_1.length < 4398046511104 then (mapmakerref06_Set.l0 kj5 l0 a1 a2 (x7_1 ++ [(⟨(rd_T34 l0 x11_1).f0, (rd_T34 l0 x11_1).f1⟩ : S34)]) t148 x10_1 (wrap64 (x11_1 + 1))) else (none))) else (none)) else (none)))) = some r := by rw [if_neg (show ¬ (false = true) by decide)] at H; exact H
              clear H
              have H := H1
              clear H1
              by_cases c13 : t148 = true
              · subst c13
                have H1 : (if 0 ≤ x11_1 then (if x11_1 < (l0.length : Int) then (if x7_1.length < 4398046511104 then (mapmakerref06_Set.l0 kj5 l0 a1 a2 (x7_1 ++ [(⟨(rd_T34 l0 x11_1).f0, (rd_T34 l0 x11_1).f1⟩ : S34)]) true x10_1 (wrap64 (x11_1 + 1))) else (none)) else (none)) else (none)) = some r := by rw [if_pos rfl] at H; exact H
                clear H
                have H := H1
                clear H1
                by_cases c14 : 0 ≤ x11_1
                · rw [if_pos c14] at H
                  have c14b0 : decide (0 ≤ x11_1) = true := decide_eq_true c14
                  clear c14
                  by_cases c15 : x11_1 < (l0.length : Int)
                  · rw [if_pos c15] at H
                    have c15b0 : decide (x11_1 < (l0.length : Int)) = true := decide_eq_true c15
                    clear c15
                    by_cases c16 : x7_1.length < 4398046511104
                    · rw [if_pos c16] at H
                      have LMc16 := Aside0.mk c16
                      clear c16
                      obtain ⟨y157, hy157⟩ : ∃ y_ : List (S34), y_ = (x7_1 ++ [(⟨(rd_T34 l0 x11_1).f0, (rd_T34 l0 x11_1).f1⟩ : S34)]) := ⟨_, rfl⟩
                      replace H : (mapmakerref06_Set.l0 kj5 l0 a1 a2 y157 true x10_1 (wrap64 (x11_1 + 1))) = some r := by first | (rw [hy157]; with_reducible exact H) | (have H2_ := (Option.bind_some _ _).symm.trans H; rw [hy157]; with_reducible exact H2_) | (have H2_ := (Option.bind_some _ _).symm.trans H; with_reducible exact H2_) | with_reducible exact H | (rw [hy157]; exact H) | exact H
                      have Ny157 := Aside0.mk hy157
                      clear hy157
                      have H' := Aside0.mk H
                      clear H
                      have p156 : 0 ≤ (x11_1 : Int) := of_decide_eq_true (by first | (with_reducible assumption) | assumption)
                      have q156 : x11_1 < (l0.length : Int) := of_decide_eq_true (by first | (with_reducible assumption) | assumption)
                      obtain ⟨ad156, e156, hx156_0, hx156_1⟩ := at_T34 HR0.out x11_1 p156 q156
                      cases e156
                      replace hx156_0 := (HB.out.cell (World.block_lt_of_cell? w _ hx156_0)).trans hx156_0
                      replace hx156_1 := (HB.out.cell (World.block_lt_of_cell? w _ hx156_1)).trans hx156_1
                      replace p156 := eq_true p156
                      replace q156 := eq_true q156
                      go_wp2_with (first | ((with_reducible refine gate_builtin (b := .append) (xs := #[.tmp 63, .tmp 68]) rfl ?_); at_builtin; refine Kd.R_append k34 (w0 := w) w.heap.size rfl (.tmp 63) (.tmp 68) 22 34 (.agg #[(.string ⟨#[]⟩), (.string ⟨#[]⟩)]) 32 rfl Try.underlying22 info34 rfl (by decide) (by omega) u7 x7_1 (⟨(rd_T34 l0 x11_1).f0, (rd_T34 l0 x11_1).f1⟩ : S34) [.string ((rd_T34 l0 x11_1).f0), .string ((rd_T34 l0 x11_1).f1)] (fun _ => True) (fun _ => False) rfl rfl ?aP (fun _ hk => hk.elim) ?aF ?aO ?aB ?aS ?aL ?_; (case aP => exact k34_mkM _ _ _ (⟨(rd_T34 l0 x11_1).f0, (rd_T34 l0 x11_1).f1⟩ : S34)); (case aB => exact (by repeat (first | (with_reducible first | exact HB.out | apply below_alloc | apply pw_below_drewN | apply below_drew1) | exact HB.out))); (case aF => exact (fun _ _ => trivial)); (case aO => exact (by (with_reducible repeat (first | apply Kd.R_alloc | apply Kd.R_drewN | apply Kd.R_drew)); exact HO_7.out)); (case aS => exact (below_size (by repeat (first | (with_reducible first | exact HB.out | apply below_alloc | apply pw_below_drewN | apply below_drew1) | exact HB.out)))); (case aL => have := LMc16.out; omega); intro v158 w17 ho hb hg hat; rw [← Ny157.out] at ho; have n0_ := Aside0.mk (hb); have n1_ := Aside0.mk (ho); clear HB; clear HO_7; have HB := n0_; have HO159 := n1_; clear n0_ n1_; clear ho hb hg hat))
                      go_roundg kj5
                      case measure => have := HK1.out; have := HJ5.out; omega
                      case rel => exact ⟨(y157), (x10_1), (wrap64 (x11_1 + 1)), (by first | rfl | (simp; done) | (simp [*]; done)), (by first | rfl | (simp; done) | (simp [*]; done)), H', ⟨by have := HK1.out; have := HJ5.out; omega⟩, ⟨by (with_reducible repeat (first | apply Kd.R_alloc | apply Kd.R_drewN | apply Kd.R_drew)); exact HO159.out⟩, ⟨by repeat (first | (with_reducible first | exact HB.out | apply below_alloc | apply pw_below_drewN | apply below_drew1) | exact HB.out)⟩⟩
                    · rw [if_neg c16] at H
                      exact absurd H (by simp)
                  · rw [if_neg c15] at H
                    exact absurd H (by simp)
                · rw [if_neg c14] at H
                  exact absurd H (by simp)
              · replace c13 := Bool.eq_false_iff.mpr c13
                subst c13
                have H1 : (if x10_1 = true then (if 0 ≤ x11_1 then (if x11_1 < (l0.length : Int) then (if x7_1.length < 4398046511104 then (mapmakerref06_Set.l0 kj5 l0 a1 a2 (x7_1 ++ [(⟨(rd_T34 l0 x11_1).f0, (rd_T34 l0 x11_1).f1⟩ : S34)]) false x10_1 (wrap64 (x11_1 + 1))) else (none)) else (none)) else (none)) else (if 0 ≤ x11_1 then (if x11_1 < (l0.length : Int) then (if (Op.bytesLess a1.toList (((rd_T34 l0 x11_1).f0).toList)) = true then (if x7_1.length < 4398046511104 then ((some (x7_1 ++ [(⟨a1, a2⟩ : S34)] : List (S34))).bind fun y165 => (if y165.length < 4398046511104 then (mapmakerref06_Set.l0 kj5 l0 a1 a2 (y165 ++ [(⟨(rd_T34 l0 x11_1).f0, (rd_T34 l0 x11_1).f1⟩ : S34)]) false true (wrap64 (x11_1 + 1))) else (none))) else (none)) else (if x7_1.length < 4398046511104 then (mapmakerref06_Set.l0 kj5 l0 a1 a2 (x7_1 ++ [(⟨(rd_T34 l0 x11_1).f0, (rd_T34 l0 x11_1).f1⟩ : S34)]) false x10_1 (wrap64 (x11_1 + 1))) else (none))) else (none)) else (none))) = some r := by rw [if_neg (show ¬ (false = true) by decide)] at H; exact H
                clear H
                have H := H1
                clear H1
                by_cases c18 : x10_1 = true
                · subst c18
                  have H1 : (if 0 ≤ x11_1 then (if x11_1 < (l0.length : Int) then (if x7_1.length < 4398046511104 then (mapmakerref06_Set.l0 kj5 l0 a1 a2 (x7_1 ++ [(⟨(rd_T34 l0 x11_1).f0, (rd_T34 l0 x11_1).f1⟩ : S34)]) false true (wrap64 (x11_1 + 1))) else (none)) else (none)) else (none)) = some r := by rw [if_pos rfl] at H; exact H
                  clear H
                  have H := H1
                  clear H1
                  by_cases c19 : 0 ≤ x11_1
                  · rw [if_pos c19] at H
                    have c19b0 : decide (0 ≤ x11_1) = true := decide_eq_true c19
                    clear c19
                    by_cases c20 : x11_1 < (l0.length : Int)
                    · rw [if_pos c20] at H
                      have c20b0 : decide (x11_1 < (l0.length : Int)) = true := decide_eq_true c20
                      clear c20
                      by_cases c21 : x7_1.length < 4398046511104
                      · rw [if_pos c21] at H
                        have LMc21 := Aside0.mk c21
                        clear c21
                        obtain ⟨y161, hy161⟩ : ∃ y_ : List (S34), y_ = (x7_1 ++ [(⟨(rd_T34 l0 x11_1).f0, (rd_T34 l0 x11_1).f1⟩ : S34)]) := ⟨_, rfl⟩
                        replace H : (mapmakerref06_Set.l0 kj5 l0 a1 a2 y161 false true (wrap64 (x11_1 + 1))) = some r := by first | (rw [hy161]; with_reducible exact H) | (have H2_ := (Option.bind_some _ _).symm.trans H; rw [hy161]; with_reducible exact H2_) | (have H2_ := (Option.bind_some _ _).symm.trans H; with_reducible exact H2_) | with_reducible exact H | (rw [hy161]; exact H) | exact H
                        have Ny161 := Aside0.mk hy161
                        clear hy161
                        have H' := Aside0.mk H
                        clear H
                        have p160 : 0 ≤ (x11_1 : Int) := of_decide_eq_true (by first | (with_reducible assumption) | assumption)
                        have q160 : x11_1 < (l0.length : Int) := of_decide_eq_true (by first | (with_reducible assumption) | assumption)
                        obtain ⟨ad160, e160, hx160_0, hx160_1⟩ := at_T34 HR0.out x11_1 p160 q160
                        cases e160
                        replace hx160_0 := (HB.out.cell (World.block_lt_of_cell? w _ hx160_0)).trans hx160_0
                        replace hx160_1 := (HB.out.cell (World.block_lt_of_cell? w _ hx160_1)).trans hx160_1
                        replace p160 := eq_true p160
                        replace q160 := eq_true q160
                        go_wp2_with (first | ((with_reducible refine gate_builtin (b := .append) (xs := #[.tmp 63, .tmp 68]) rfl ?_); at_builtin; refine Kd.R_append k34 (w0 := w) w.heap.size rfl (.tmp 63) (.tmp 68) 22 34 (.agg #[(.string ⟨#[]⟩), (.string ⟨#[]⟩)]) 32 rfl Try.underlying22 info34 rfl (by decide) (by omega) u7 x7_1 (⟨(rd_T34 l0 x11_1).f0, (rd_T34 l0 x11_1).f1⟩ : S34) [.string ((rd_T34 l0 x11_1).f0), .string ((rd_T34 l0 x11_1).f1)] (fun _ => True) (fun _ => False) rfl rfl ?aP (fun _ hk => hk.elim) ?aF ?aO ?aB ?aS ?aL ?_; (case aP => exact k34_mkM _ _ _ (⟨(rd_T34 l0 x11_1).f0, (rd_T34 l0 x11_1).f1⟩ : S34)); (case aB => exact (by repeat (first | (with_reducible first | exact HB.out | apply below_alloc | apply pw_below_drewN | apply below_drew1) | exact HB.out))); (case aF => exact (fun _ _ => trivial)); (case aO => exact (by (with_reducible repeat (first | apply Kd.R_alloc | apply Kd.R_drewN | apply Kd.R_drew)); exact HO_7.out)); (case aS => exact (below_size (by repeat (first | (with_reducible first | exact HB.out | apply below_alloc | apply pw_below_drewN | apply below_drew1) | exact HB.out)))); (case aL => have := LMc21.out; omega); intro v162 w22 ho hb hg hat; rw [← Ny161.out] at ho; have n0_ := Aside0.mk (hb); have n1_ := Aside0.mk (ho); clear HB; clear HO_7; have HB := n0_; have HO163 := n1_; clear n0_ n1_; clear ho hb hg hat))
                        go_roundg kj5
                        case measure => have := HK1.out; have := HJ5.out; omega
                        case rel => exact ⟨(y161), (true), (wrap64 (x11_1 + 1)), (by first | rfl | (simp; done) | (simp [*]; done)), (by first | rfl | (simp; done) | (simp [*]; done)), H', ⟨by have := HK1.out; have := HJ5.out; omega⟩, ⟨by (with_reducible repeat (first | apply Kd.R_alloc | apply Kd.R_drewN | apply Kd.R_drew)); exact HO163.out⟩, ⟨by repeat (first | (with_reducible first | exact HB.out | apply below_alloc | apply pw_below_drewN | apply below_drew1) | exact HB.out)⟩⟩
                      · rw [if_neg c21] at H
                        exact absurd H (by simp)
                    · rw [if_neg c20] at H
                      exact absurd H (by simp)
                  · rw [if_neg c19] at H
                    exact absurd H (by simp)
                · replace c18 := Bool.eq_false_iff.mpr c18
                  subst c18
                  have H1 : (if 0 ≤ x11_1 then (if x11_1 < (l0.length : Int) then (if (Op.bytesLess a1.toList (((rd_T34 l0 x11_1).f0).toList)) = true then (if x7_1.length < 4398046511104 then ((some (x7_1 ++ [(⟨a1, a2⟩ : S34)] : List (S34))).bind fun y165 => (if y165.length < 4398046511104 then (mapmakerref06_Set.l0 kj5 l0 a1 a2 (y165 ++ [(⟨(rd_T34 l0 x11_1).f0, (rd_T34 l0 x11_1).f1⟩ : S34)]) false true (wrap64 (x11_1 + 1))) else (none))) else (none)) else (if x7_1.length < 4398046511104 then (mapmakerref06_Set.l0 kj5 l0 a1 a2 (x7_1 ++ [(⟨(rd_T34 l0 x11_1).f0, (rd_T34 l0 x11_1).f1⟩ : S34)]) false false (wrap64 (x11_1 + 1))) else (none))) else (none)) else (none)) = some r := by rw [if_neg (show ¬ (false = true) by decide)] at H; exact H
                  clear H
                  have H := H1
                  clear H1
                  by_cases c23 : 0 ≤ x11_1
                  · rw [if_pos c23] at H
                    have c23b0 : decide (0 ≤ x11_1) = true := decide_eq_true c23
                    clear c23
                    by_cases c24 : x11_1 < (l0.length : Int)
                    · rw [if_pos c24] at H
                      have c24b0 : decide (x11_1 < (l0.length : Int)) = true := decide_eq_true c24
                      clear c24
                      by_cases c25 : (Op.bytesLess a1.toList (((rd_T34 l0 x11_1).f0).toList)) = true
                      · rw [if_pos c25] at H
                        have c25b0 : (Op.bytesLess a1.toList (((rd_T34 l0 x11_1).f0).toList)) = true := c25
                        clear c25
                        by_cases c26 : x7_1.length < 4398046511104
                        · rw [if_pos c26] at H
                          have LMc26 := Aside0.mk c26
                          clear c26
                          obtain ⟨y165, hy165⟩ : ∃ y_ : List (S34), y_ = (x7_1 ++ [(⟨a1, a2⟩ : S34)]) := ⟨_, rfl⟩
                          replace H : (if y165.length < 4398046511104 then (mapmakerref06_Set.l0 kj5 l0 a1 a2 (y165 ++ [(⟨(rd_T34 l0 x11_1).f0, (rd_T34 l0 x11_1).f1⟩ : S34)]) false true (wrap64 (x11_1 + 1))) else (none)) = some r := by first | (rw [hy165]; with_reducible exact H) | (have H2_ := (Option.bind_some _ _).symm.trans H; rw [hy165]; with_reducible exact H2_) | (have H2_ := (Option.bind_some _ _).symm.trans H; with_reducible exact H2_) | with_reducible exact H | (rw [hy165]; exact H) | exact H
                          have Ny165 := Aside0.mk hy165
                          clear hy165
                          by_cases c27 : y165.length < 4398046511104
                          · rw [if_pos c27] at H
                            have LMc27 := Aside0.mk c27
                            clear c27
                            obtain ⟨y169, hy169⟩ : ∃ y_ : List (S34), y_ = (y165 ++ [(⟨(rd_T34 l0 x11_1).f0, (rd_T34 l0 x11_1).f1⟩ : S34)]) := ⟨_, rfl⟩
                            replace H : (mapmakerref06_Set.l0 kj5 l0 a1 a2 y169 false true (wrap64 (x11_1 + 1))) = some r := by first | (rw [hy169]; with_reducible exact H) | (have H2_ := (Option.bind_some _ _).symm.trans H; rw [hy169]; with_reducible exact H2_) | (have H2_ := (Option.bind_some _ _).symm.trans H; with_reducible exact H2_) | with_reducible exact H | (rw [hy169]; exact H) | exact H
                            have Ny169 := Aside0.mk hy169
                            clear hy169
                            have H' := Aside0.mk H
                            clear H
                            have p164 : 0 ≤ (x11_1 : Int) := of_decide_eq_true (by first | (with_reducible assumption) | assumption)
                            have q164 : x11_1 < (l0.length : Int) := of_decide_eq_true (by first | (with_reducible assumption) | assumption)
                            obtain ⟨ad164, e164, hx164_0, hx164_1⟩ := at_T34 HR0.out x11_1 p164 q164
                            cases e164
                            replace hx164_0 := (HB.out.cell (World.block_lt_of_cell? w _ hx164_0)).trans hx164_0
                            replace hx164_1 := (HB.out.cell (World.block_lt_of_cell? w _ hx164_1)).trans hx164_1
                            replace p164 := eq_true p164
                            replace q164 := eq_true q164
                            go_wp2_with (first | ((with_reducible refine gate_builtin (b := .append) (xs := #[.tmp 57, .tmp 61]) rfl ?_); at_builtin; refine Kd.R_append k34 (w0 := w) w.heap.size rfl (.tmp 57) (.tmp 61) 22 34 (.agg #[(.string ⟨#[]⟩), (.string ⟨#[]⟩)]) 32 rfl Try.underlying22 info34 rfl (by decide) (by omega) u7 x7_1 (⟨a1, a2⟩ : S34) [.string a1, .string a2] (fun _ => True) (fun _ => False) rfl rfl ?aP (fun _ hk => hk.elim) ?aF ?aO ?aB ?aS ?aL ?_; (case aP => exact k34_mkM _ _ _ (⟨a1, a2⟩ : S34)); (case aB => exact (by repeat (first | (with_reducible first | exact HB.out | apply below_alloc | apply pw_below_drewN | apply below_drew1) | exact HB.out))); (case aF => exact (fun _ _ => trivial)); (case aO => exact (by (with_reducible repeat (first | apply Kd.R_alloc | apply Kd.R_drewN | apply Kd.R_drew)); exact HO_7.out)); (case aS => exact (below_size (by repeat (first | (with_reducible first | exact HB.out | apply below_alloc | apply pw_below_drewN | apply below_drew1) | exact HB.out)))); (case aL => have := LMc26.out; omega); intro v166 w28 ho hb hg hat; rw [← Ny165.out] at ho; have n0_ := Aside0.mk (hb); have n1_ := Aside0.mk (ho); clear HB; clear HO_7; have HB := n0_; have HO167 := n1_; clear n0_ n1_; clear ho hb hg hat; have p168 : 0 ≤ (x11_1 : Int) := of_decide_eq_true (by first | (with_reducible assumption) | assumption); have q168 : x11_1 < (l0.length : Int) := of_decide_eq_true (by first | (with_reducible assumption) | assumption); obtain ⟨ad168, e168, hx168_0, hx168_1⟩ := at_T34 HR0.out x11_1 p168 q168; obtain rfl : ad164 = ad168 := (by injection e168); replace hx168_0 := (HB.out.cell (World.block_lt_of_cell? w _ hx168_0)).trans hx168_0; replace hx168_1 := (HB.out.cell (World.block_lt_of_cell? w _ hx168_1)).trans hx168_1; replace p168 := eq_true p168; replace q168 := eq_true q168) | ((with_reducible refine gate_builtin (b := .append) (xs := #[.tmp 63, .tmp 68]) rfl ?_); at_builtin; refine Kd.R_append k34 (w0 := w) w.heap.size rfl (.tmp 63) (.tmp 68) 22 34 (.agg #[(.string ⟨#[]⟩), (.string ⟨#[]⟩)]) 32 rfl Try.underlying22 info34 rfl (by decide) (by omega) v166 y165 (⟨(rd_T34 l0 x11_1).f0, (rd_T34 l0 x11_1).f1⟩ : S34) [.string ((rd_T34 l0 x11_1).f0), .string ((rd_T34 l0 x11_1).f1)] (fun _ => True) (fun _ => False) rfl rfl ?aP (fun _ hk => hk.elim) ?aF ?aO ?aB ?aS ?aL ?_; (case aP => exact k34_mkM _ _ _ (⟨(rd_T34 l0 x11_1).f0, (rd_T34 l0 x11_1).f1⟩ : S34)); (case aB => exact (by repeat (first | (with_reducible first | exact HB.out | apply below_alloc | apply pw_below_drewN | apply below_drew1) | exact HB.out))); (case aF => exact (fun _ _ => trivial)); (case aO => exact (by (with_reducible repeat (first | apply Kd.R_alloc | apply Kd.R_drewN | apply Kd.R_drew)); exact HO167.out)); (case aS => exact (below_size (by repeat (first | (with_reducible first | exact HB.out | apply below_alloc | apply pw_below_drewN | apply below_drew1) | exact HB.out)))); (case aL => have := LMc27.out; omega); intro v170 w29 ho hb hg hat; rw [← Ny169.out] at ho; have n0_ := Aside0.mk (hb); have n1_ := Aside0.mk (ho); clear HB; clear HO167; have HB := n0_; have HO171 := n1_; clear n0_ n1_; clear ho hb hg hat))
                            go_roundg kj5
                            case measure => have := HK1.out; have := HJ5.out; omega
                            case rel => exact ⟨(y169), (true), (wrap64 (x11_1 + 1)), (by first | rfl | (simp; done) | (simp [*]; done)), (by first | rfl | (simp; done) | (simp [*]; done)), H', ⟨by have := HK1.out; have := HJ5.out; omega⟩, ⟨by (with_reducible repeat (first | apply Kd.R_alloc | apply Kd.R_drewN | apply Kd.R_drew)); exact HO171.out⟩, ⟨by repeat (first | (with_reducible first | exact HB.out | apply below_alloc | apply pw_below_drewN | apply below_drew1) | exact HB.out)⟩⟩
                          · rw [if_neg c27] at H
                            exact absurd H (by simp)
                        · rw [if_neg c26] at H
                          exact absurd H (by simp)
                      · rw [if_neg c25] at H
                        have c25b0 : (Op.bytesLess a1.toList (((rd_T34 l0 x11_1).f0).toList)) = false := by simpa using c25
                        clear c25
                        by_cases c30 : x7_1.length < 4398046511104
                        · rw [if_pos c30] at H
                          have LMc30 := Aside0.mk c30
                          clear c30
                          obtain ⟨y173, hy173⟩ : ∃ y_ : List (S34), y_ = (x7_1 ++ [(⟨(rd_T34 l0 x11_1).f0, (rd_T34 l0 x11_1).f1⟩ : S34)]) := ⟨_, rfl⟩
                          replace H : (mapmakerref06_Set.l0 kj5 l0 a1 a2 y173 false false (wrap64 (x11_1 + 1))) = some r := by first | (rw [hy173]; with_reducible exact H) | (have H2_ := (Option.bind_some _ _).symm.trans H; rw [hy173]; with_reducible exact H2_) | (have H2_ := (Option.bind_some _ _).symm.trans H; with_reducible exact H2_) | with_reducible exact H | (rw [hy173]; exact H) | exact H
                          have Ny173 := Aside0.mk hy173
                          clear hy173
                          have H' := Aside0.mk H
                          clear H
                          have p164 : 0 ≤ (x11_1 : Int) := of_decide_eq_true (by first | (with_reducible assumption) | assumption)
                          have q164 : x11_1 < (l0.length : Int) := of_decide_eq_true (by first | (with_reducible assumption) | assumption)
                          obtain ⟨ad164, e164, hx164_0, hx164_1⟩ := at_T34 HR0.out x11_1 p164 q164
                          cases e164
                          replace hx164_0 := (HB.out.cell (World.block_lt_of_cell? w _ hx164_0)).trans hx164_0
                          replace hx164_1 := (HB.out.cell (World.block_lt_of_cell? w _ hx164_1)).trans hx164_1
                          replace p164 := eq_true p164
                          replace q164 := eq_true q164
                          have p172 : 0 ≤ (x11_1 : Int) := of_decide_eq_true (by first | (with_reducible assumption) | assumption)
                          have q172 : x11_1 < (l0.length : Int) := of_decide_eq_true (by first | (with_reducible assumption) | assumption)
                          obtain ⟨ad172, e172, hx172_0, hx172_1⟩ := at_T34 HR0.out x11_1 p172 q172
                          obtain rfl : ad164 = ad172 := (by injection e172)
                          replace hx172_0 := (HB.out.cell (World.block_lt_of_cell? w _ hx172_0)).trans hx172_0
                          replace hx172_1 := (HB.out.cell (World.block_lt_of_cell? w _ hx172_1)).trans hx172_1
                          replace p172 := eq_true p172
                          replace q172 := eq_true q172
                          go_wp2_with (first | ((with_reducible refine gate_builtin (b := .append) (xs := #[.tmp 63, .tmp 68]) rfl ?_); at_builtin; refine Kd.R_append k34 (w0 := w) w.heap.size rfl (.tmp 63) (.tmp 68) 22 34 (.agg #[(.string ⟨#[]⟩), (.string ⟨#[]⟩)]) 32 rfl Try.underlying22 info34 rfl (by decide) (by omega) u7 x7_1 (⟨(rd_T34 l0 x11_1).f0, (rd_T34 l0 x11_1).f1⟩ : S34) [.string ((rd_T34 l0 x11_1).f0), .string ((rd_T34 l0 x11_1).f1)] (fun _ => True) (fun _ => False) rfl rfl ?aP (fun _ hk => hk.elim) ?aF ?aO ?aB ?aS ?aL ?_; (case aP => exact k34_mkM _ _ _ (⟨(rd_T34 l0 x11_1).f0, (rd_T34 l0 x11_1).f1⟩ : S34)); (case aB => exact (by repeat (first | (with_reducible first | exact HB.out | apply below_alloc | apply pw_below_drewN | apply below_drew1) | exact HB.out))); (case aF => exact (fun _ _ => trivial)); (case aO => exact (by (with_reducible repeat (first | apply Kd.R_alloc | apply Kd.R_drewN | apply Kd.R_drew)); exact HO_7.out)); (case aS => exact (below_size (by repeat (first | (with_reducible first | exact HB.out | apply below_alloc | apply pw_below_drewN | apply below_drew1) | exact HB.out)))); (case aL => have := LMc30.out; omega); intro v174 w31 ho hb hg hat; rw [← Ny173.out] at ho; have n0_ := Aside0.mk (hb); have n1_ := Aside0.mk (ho); clear HB; clear HO_7; have HB := n0_; have HO175 := n1_; clear n0_ n1_; clear ho hb hg hat))
                          go_roundg kj5
                          case measure => have := HK1.out; have := HJ5.out; omega
                          case rel => exact ⟨(y173), (false), (wrap64 (x11_1 + 1)), (by first | rfl | (simp; done) | (simp [*]; done)), (by first | rfl | (simp; done) | (simp [*]; done)), H', ⟨by have := HK1.out; have := HJ5.out; omega⟩, ⟨by (with_reducible repeat (first | apply Kd.R_alloc | apply Kd.R_drewN | apply Kd.R_drew)); exact HO175.out⟩, ⟨by repeat (first | (with_reducible first | exact HB.out | apply below_alloc | apply pw_below_drewN | apply below_drew1) | exact HB.out)⟩⟩
                        · rw [if_neg c30] at H
                          exact absurd H (by simp)
                    · rw [if_neg c24] at H
                      exact absurd H (by simp)
                  · rw [if_neg c23] at H
                    exact absurd H (by simp)
      · rw [if_neg c5] at H
        have c5b0 : decide (x11_1 < (l0.length : Int)) = false := decide_eq_false c5
        clear c5
        by_cases c32 : x10_1 = true
        · subst c32
          have H1 : (some x7_1) = some r := by rw [if_pos rfl] at H; exact H
          clear H
          have H := H1
          clear H1
          obtain rfl := Option.some.inj H
          go_wp2
          go_ret
          exact ⟨_, by first | rfl | (simp [errW_none, errW_some] <;> rfl) | (simp [*, errW_none, errW_some] <;> rfl), by (with_reducible repeat (first | apply Kd.R_alloc | apply Kd.R_drewN | apply Kd.R_drew)); exact HO_7.out, by repeat (first | (with_reducible first | exact HB.out | apply below_alloc | apply pw_below_drewN | apply below_drew1) | exact HB.out)⟩
        · replace c32 := Bool.eq_false_iff.mpr c32
          subst c32
          have H1 : (if x7_1.length < 4398046511104 then (some (x7_1 ++ [(⟨a1, a2⟩ : S34)])) else (none)) = some r := by rw [if_neg (show ¬ (false = true) by decide)] at H; exact H
          clear H
          have H := H1
          clear H1
          by_cases c33 : x7_1.length < 4398046511104
          · rw [if_pos c33] at H
            have LMc33 := Aside0.mk c33
            clear c33
            obtain ⟨y149, hy149⟩ : ∃ y_ : List (S34), y_ = (x7_1 ++ [(⟨a1, a2⟩ : S34)]) := ⟨_, rfl⟩
            replace H : (some y149) = some r := by first | (rw [hy149]; with_reducible exact H) | (have H2_ := (Option.bind_some _ _).symm.trans H; rw [hy149]; with_reducible exact H2_) | (have H2_ := (Option.bind_some _ _).symm.trans H; with_reducible exact H2_) | with_reducible exact H | (rw [hy149]; exact H) | exact H
            have Ny149 := Aside0.mk hy149
            clear hy149
            obtain rfl := Option.some.inj H
            go_wp2_with (first | ((with_reducible refine gate_builtin (b := .append) (xs := #[.tmp 72, .tmp 76]) rfl ?_); at_builtin; refine Kd.R_append k34 (w0 := w) w.heap.size rfl (.tmp 72) (.tmp 76) 22 34 (.agg #[(.string ⟨#[]⟩), (.string ⟨#[]⟩)]) 32 rfl Try.underlying22 info34 rfl (by decide) (by omega) u7 x7_1 (⟨a1, a2⟩ : S34) [.string a1, .string a2] (fun _ => True) (fun _ => False) rfl rfl ?aP (fun _ hk => hk.elim) ?aF ?aO ?aB ?aS ?aL ?_; (case aP => exact k34_mkM _ _ _ (⟨a1, a2⟩ : S34)); (case aB => exact (by repeat (first | (with_reducible first | exact HB.out | apply below_alloc | apply pw_below_drewN | apply below_drew1) | exact HB.out))); (case aF => exact (fun _ _ => trivial)); (case aO => exact (by (with_reducible repeat (first | apply Kd.R_alloc | apply Kd.R_drewN | apply Kd.R_drew)); exact HO_7.out)); (case aS => exact (below_size (by repeat (first | (with_reducible first | exact HB.out | apply below_alloc | apply pw_below_drewN | apply below_drew1) | exact HB.out)))); (case aL => have := LMc33.out; omega); intro v150 w34 ho hb hg hat; rw [← Ny149.out] at ho; have n0_ := Aside0.mk (hb); have n1_ := Aside0.mk (ho); clear HB; clear HO_7; have HB := n0_; have HO151 := n1_; clear n0_ n1_; clear ho hb hg hat))
            go_ret
            exact ⟨_, by first | rfl | (simp [errW_none, errW_some] <;> rfl) | (simp [*, errW_none, errW_some] <;> rfl), by (with_reducible repeat (first | apply Kd.R_alloc | apply Kd.R_drewN | apply Kd.R_drew)); exact HO151.out, by repeat (first | (with_reducible first | exact HB.out | apply below_alloc | apply pw_below_drewN | apply below_drew1) | exact HB.out)⟩
          · rw [if_neg c33] at H
            exact absurd H (by simp)


/-! ### tags_Drop: function 22 -/

/-- What slices.DeleteFunc has laid behind jj elements. -/
structure Deld {α : Type} (p : α → Bool) (l : List α) (jj ii : Nat) (cur : List α) : Prop where
  len : cur.length = l.length
  le : jj ≤ l.length
  ile : ii < jj
  kept : cur.take ii = (l.take jj).filter (fun x => !p x)
  rest : cur.drop jj = l.drop jj
theorem Deld.step_yes {α : Type} {p : α → Bool} {l cur : List α} {jj ii : Nat} (h : Deld p l jj ii cur) (hj : jj < l.length) (hp : p l[jj] = true) : Deld p l (jj + 1) ii cur where
  len := h.len
  le := hj
  ile := by have := h.ile; omega
  kept := by rw [List.take_succ_eq_append_getElem hj, List.filter_append, h.kept]; simp [hp]
  rest := by
    have := congrArg (List.drop 1) h.rest
    rwa [List.drop_drop, List.drop_drop] at this
theorem Deld.step_no {α : Type} {p : α → Bool} {l cur : List α} {jj ii : Nat} (h : Deld p l jj ii cur) (hj : jj < l.length) (hp : p l[jj] = false) : Deld p l (jj + 1) (ii + 1) (cur.set ii l[jj]) where
  len := by rw [List.length_set]; exact h.len
  le := hj
  ile := by have := h.ile; omega
  kept := by
    have hi : ii < cur.length := by rw [h.len]; have := h.ile; omega
    rw [List.take_succ_eq_append_getElem hj, List.filter_append, ← h.kept, List.take_succ_eq_append_getElem (by rw [List.length_set]; exact hi), List.getElem_set_self, List.take_set_of_le (Nat.le_refl _)]
    simp [hp]
  rest := by
    rw [List.drop_set_of_lt (by have := h.ile; omega)]
    have := congrArg (List.drop 1) h.rest
    rwa [List.drop_drop, List.drop_drop] at this
theorem Deld.start {α : Type} {p : α → Bool} {l : List α} {i : Nat} (hi : i < l.length) (hp : p l[i] = true) (hb : ∀ j (hj : j < i), p l[j] = false) : Deld p l (i + 1) i l where
  len := rfl
  le := hi
  ile := by omega
  kept := by
    rw [List.take_succ_eq_append_getElem hi, List.filter_append]
    have : (l.take i).filter (fun x => !p x) = l.take i := by
      rw [List.filter_eq_self]
      intro x hx
      obtain ⟨j, hj, rfl⟩ := List.getElem_of_mem hx
      rw [List.length_take] at hj
      rw [List.getElem_take, hb j (by omega)]; rfl
    rw [this]
    simp [hp]
  rest := rfl
theorem Deld.get {α : Type} {p : α → Bool} {l cur : List α} {jj ii : Nat} (h : Deld p l jj ii cur) (hj : jj < l.length) (z : α) : cur.getD jj z = l[jj] := by
  have h1 := congrArg (fun q => q[0]?) h.rest
  simp only [List.getElem?_drop, Nat.add_zero] at h1
  rw [List.getD_eq_getElem?_getD, h1, List.getElem?_eq_getElem hj]
  rfl
theorem Deld.done {α : Type} {p : α → Bool} {l cur : List α} {jj ii : Nat} (h : Deld p l jj ii cur) (hj : jj = l.length) : cur.take ii = l.filter (fun x => !p x) ∧ ii = (l.filter (fun x => !p x)).length := by
  have h1 := h.kept
  rw [hj, List.take_length] at h1
  refine ⟨h1, ?_⟩
  rw [← h1, List.length_take, h.len]
  have := h.ile
  omega

set_option maxHeartbeats 4000000 in
set_option maxRecDepth 100000 in
theorem df35 (p : S34 → Bool) (g : Nat) (lb : Array Value) (eg : ∀ args w, (callFunc g args).run Try.prog w = .ok (.enter g args) w) (base : Nat) (A : Option Addr) (c : Nat) (l : List S34) (w0 w : World)
    (HO : Kd.R k34 34 w base (fun _ => True) (.slice A l.length c) l) (hb0 : Below base w0 w) (hbase : base ≤ w.heap.size)
    (hp : ∀ (W : World) (x : S34), w.grownBy W (Value.slice A l.length c).ownBlock → Calls Try.prog g (#[.agg #[.string x.f0, .string x.f1]] ++ lb) W fun e w' => e = .returned (.bool (p x)) ∧ Below W.heap.size W w') :
    Calls Try.prog 35 #[.slice A l.length c, .func (.func g) #[] lb] w fun e w' => e = .returned (.slice A (l.filter (fun x => !p x)).length c) ∧ Kd.R k34 34 w' base (fun _ => True) (.slice A (l.filter (fun x => !p x)).length c) (l.filter (fun x => !p x)) ∧ Below base w0 w' ∧ w.grownBy w' (Value.slice A l.length c).ownBlock := by
  have hreads := Kd.R_reads' HO
  have hix := ix32 p g lb eg A c l w hreads.2.2 (fun W x hb => (hp W x (grown_of_below hb _)).mono (fun e w' ⟨h1, h2⟩ => ⟨h1, below_step hb h2⟩))
  have hbig : l.length ≤ 9223372036854775807 := hreads.2.2.2.1
  have hO := Aside0.mk HO
  have HB0 := Aside0.mk hb0
  have HP := Aside0.mk hp
  clear hreads HO hb0 hp
  cases hf : l.findIdx? p with
  | none =>
    have hnone : ixOf p l = -1 := by unfold ixOf; rw [hf]
    rw [hnone] at hix
    have hfil : l.filter (fun x => !p x) = l := by
      rw [List.filter_eq_self]
      intro x hx
      rw [List.findIdx?_eq_none_iff] at hf
      rw [hf x hx]; rfl
    rw [hfil]
    clear hf hnone hfil
    go_enter Try.func35, Try.ntmps35
    go_wp2_with (go_at_call 32; refine hix.mono ?_; rintro e w' ⟨rfl, hb'⟩)
    go_ret
    exact ⟨rfl, Kd.R_below hO.out hb', HB0.out.trans (hb'.mono hbase), grown_of_below hb' _⟩
  | some i0 =>
    rw [List.findIdx?_eq_some_iff_getElem] at hf
    obtain ⟨hi0, hpi, hbi⟩ := hf
    have hsome : ixOf p l = (i0 : Int) := ixOf_hit p l z34 i0 hi0 (by rw [List.getD_eq_getElem?_getD, List.getElem?_eq_getElem hi0]; exact hpi) (fun j hj => by rw [List.getD_eq_getElem?_getD, List.getElem?_eq_getElem (show j < l.length by omega)]; simpa using hbi j hj)
    rw [hsome] at hix
    have HD0 := Aside0.mk (Deld.start hi0 hpi (fun j hj => by simpa using hbi j hj))
    clear hpi hbi hsome
    obtain ⟨ga, rfl⟩ := R_head hO.out (by omega)
    go_enter Try.func35, Try.ntmps35
    go_wp2_with (go_at_call 32; refine hix.mono ?_; rintro e w1 ⟨rfl, hb1⟩)
    clear hix
    have HG1 := Aside0.mk (grown_of_below hb1 (Value.slice (some ⟨ga, 0, none⟩) l.length c).ownBlock)
    have HB1 := Aside0.mk (HB0.out.trans (hb1.mono hbase))
    have HO1 := Aside0.mk (Kd.R_below hO.out hb1)
    have HS1 := Aside0.mk hb1.size
    clear hb1
    go_loopg [5, 6] l.length (fun gg v5 v6 wr => ∃ (jj ii : Nat) (cur : List S34), jj ≤ l.length ∧ l.length - jj ≤ gg ∧ v5 = .int .i64 ii ∧ v6 = .int .i64 jj ∧ Aside0 (Deld p l jj ii cur) ∧ Aside0 (Kd.R k34 34 wr base (fun _ => True) (.slice (some ⟨ga, 0, none⟩) l.length c) cur) ∧ Aside0 (Below base w0 wr) ∧ Aside0 (w.grownBy wr (Value.slice (some ⟨ga, 0, none⟩) l.length c).ownBlock))
    case atStart => exact ⟨i0 + 1, i0, l, by omega, by omega, rfl, by go_num, HD0, HO1, HB1, HG1⟩
    case round =>
      clear HO1 HB1 HG1 HS1 HD0 hO HB0
      obtain ⟨jj, ii, cur, hjl, hgg, rfl, rfl, HD, HO, HB, HG⟩ := hrel
      have hii : ii < jj := HD.out.ile
      have hlen := HD.out.len
      by_cases hlt : jj < l.length
      · have hltI : (jj : Int) < (l.length : Int) := by omega
        have hiiI : (ii : Int) < (l.length : Int) := by omega
        obtain ⟨ad, e0, hx0, hx1⟩ := at_T34 (Kd.R_reads' HO.out).2.2 (jj : Int) (by omega) (by omega)
        cases e0
        have hy : rd_T34 cur (jj : Int) = l[jj] := by unfold rd_T34; rw [Int.toNat_natCast]; exact HD.out.get hlt z34
        rw [hy, Int.toNat_natCast, Addr.add_lit, Nat.zero_add] at hx0 hx1
        replace hx1 : wr.cell? ⟨ga, jj * 2 + 1, none⟩ = some (.string l[jj].f1) := hx1
        have hcall := HP.out (wr.alloc (.cells #[.string l[jj].f0, .string l[jj].f1] 34)) l[jj] (HG.out.trans (World.grownBy_alloc wr _ _))
        have HSY := Aside0.mk (show ∀ q : Bool, p l[jj] = q → p l[jj] = q from fun _ h => h)
        have HDN := Aside0.mk (fun hq : p l[jj] = false => HD.out.step_no hlt hq)
        have HDY := Aside0.mk (fun hq : p l[jj] = true => HD.out.step_yes hlt hq)
        clear hy HD
        generalize l[jj] = y at hcall hx0 hx1 HDN HDY HSY
        cases hq : p y with
        | true =>
          rw [hq] at hcall
          have HDY' := Aside0.mk (HDY.out hq)
          clear hq HDN HDY HSY
          go_wp2_with (go_at_fn g; refine hcall.mono ?_; rintro e w2 ⟨rfl, hb2⟩)
          go_roundg (l.length - (jj + 1))
          case measure => omega
          case rel => exact ⟨jj + 1, ii, cur, by omega, by omega, rfl, by go_num, HDY', ⟨Kd.R_below (Kd.R_alloc HO.out _) hb2⟩, ⟨(HB.out.alloc (by have := HG.out.size; omega) _).trans (hb2.mono (by simp; have := HG.out.size; omega))⟩, ⟨HG.out.trans ((World.grownBy_alloc wr _ _).trans (grown_of_below hb2 _))⟩⟩
        | false =>
          rw [hq] at hcall
          have HDN' := Aside0.mk (HDN.out hq)
          clear hq HDN HDY HSY
          go_wp2_with (first
            | (go_at_fn g; refine hcall.mono ?_; rintro e w2 ⟨rfl, hb2⟩; have hv0 : w2.cell? ⟨wr.heap.size, 0, none⟩ = some (.string y.f0) := (hb2.cell (p := ⟨wr.heap.size, 0, none⟩) (by simp)).trans (by simp); have hv1 : w2.cell? ⟨wr.heap.size, 1, none⟩ = some (.string y.f1) := (hb2.cell (p := ⟨wr.heap.size, 1, none⟩) (by simp)).trans (by simp); have HO2 := Aside0.mk (Kd.R_below (Kd.R_alloc HO.out _) hb2); have HB2 := Aside0.mk ((HB.out.alloc (by have := HG.out.size; omega) _).trans (hb2.mono (by simp; have := HG.out.size; omega))); have HG2 := Aside0.mk (HG.out.trans ((World.grownBy_alloc wr _ _).trans (grown_of_below hb2 _))); clear hb2)
            | ((with_reducible refine gate_ (.store 34 (.tmp 33) (.tmp 32)) rfl ?_); obtain ⟨ad2, c2, he2, hc2, _, hcc2⟩ := Kd.C_get (Kd.R_reads' HO2.out).2.2 z34 (ii : Int) (by omega) (by omega); cases he2; refine Kd.R_store k34 (w0 := w0) base rfl rfl 34 (.tmp 33) (.tmp 32) rfl 34 (o' := ii * 2) (ii : Int) 0 cur y (.agg #[.string y.f0, .string y.f1]) [.string y.f0, .string y.f1] c2 (fun _ => True) (fun _ => False) rfl rfl rfl rfl (by kernel_rfl) (by simp; exact ⟨rfl, rfl⟩) HO2.out (by omega) hiiI hc2 (fun j u hu => ?cc) (Nat.le_refl 2) ?mm (fun k hk => hk.elim) HB2.out ?_; (case cc => have := hcc2 j u hu; rw [Addr.add_lit, Nat.zero_add] at this; exact this); (case mm => have hl2 : c2.length = 2 := hc2; rw [List.take_zero, List.nil_append, List.drop_eq_nil_of_le (by rw [hl2]; exact Nat.le_refl 2), List.append_nil]; exact k34_mkM _ _ _ y); intro w3 ho3 hb3 hg3; have HO3 := Aside0.mk ho3; have HB3 := Aside0.mk hb3; have HG3 := Aside0.mk (HG2.out.trans hg3); clear ho3 hb3 hg3))
          go_roundg (l.length - (jj + 1))
          case measure => omega
          case rel => exact ⟨jj + 1, ii + 1, cur.set ii y, by omega, by omega, by go_num, by go_num, HDN', HO3, HB3, HG3⟩
      · have hjl2 : jj = l.length := by omega
        obtain ⟨hd1, hd2⟩ := HD.out.done hjl2
        subst hjl2
        clear HD
        have hcap := R_cap HO.out
        rw [hlen] at hcap
        have hii' : ii < l.length := hii
        have hiic : ii < c := by omega
        have hnn : (ii : Int) ≤ (l.length : Int) := by omega
        have HD1 := Aside0.mk hd1
        have HD2 := Aside0.mk hd2
        have HLN := Aside0.mk hlen
        clear hd1 hd2 hlen
        go_wp2
        obtain ⟨w2, hrun, ho2, hg2⟩ := R_clear_run (P := Try.prog) k34 base 34 22 0 Try.underlying22 (.agg #[(.string ⟨#[]⟩), (.string ⟨#[]⟩)]) zv34 rfl (by decide) z34 (.slice (some ⟨ga, 0, none⟩) l.length c) cur ii (l.length - ii) ga (c - ii) (fun _ => True) (k34_mkM _ _ _ z34) HO.out (by rw [HLN.out]; omega) rfl
        have HO2 := Aside0.mk ho2
        have HG2 := Aside0.mk hg2
        clear ho2 hg2
        have hrun' : (Builtin.clear_ #[22] 0 #[Value.slice (some { block := ga, off := ii * 2 }) (l.length - ii) (c - ii)]).run Try.prog wr = .ok (.tuple #[]) w2 := hrun
        rw [hrun']
        simp only [Result.andThen_ok, Oper.upon_value]
        clear hrun hrun'
        go_wp2
        go_ret
        have e1 : (cur.take ii ++ (List.replicate (l.length - ii) z34 ++ cur.drop (ii + (l.length - ii)))).take ii = l.filter (fun x => !p x) := by
          rw [List.take_append_of_le_length (by rw [List.length_take, HLN.out]; omega), List.take_take, Nat.min_self]
          exact HD1.out
        have e2 := HD2.out
        have ho3 := Kd.R_take (m := ii) HO2.out (by simp [HLN.out]; omega)
        rw [e1] at ho3
        rw [← e2]
        exact ⟨rfl, ho3, HB.out.grown HG2.out (by have := HG.out.size; omega) (fun k hk => own_base (Kd.R_own HO.out).choose_spec k hk), HG.out.trans HG2.out⟩

set_option maxHeartbeats 4000000 in
set_option maxRecDepth 100000 in
theorem closedBy36 (a1 : ByteArray) (B : Nat) (W : World) (x : S34) (hc : W.cell? ⟨B, 0, none⟩ = some (.string a1)) (hBW : B < W.heap.size) :
    Calls Try.prog 36 (#[.agg #[.string x.f0, .string x.f1]] ++ #[.pointer (some ⟨B, 0, none⟩)]) W fun e w' => e = .returned (.bool (keyIs a1 x)) ∧ Below W.heap.size W w' := by
  have hne : B ≠ W.heap.size := by omega
  have HB := Aside0.mk (Below.refl W.heap.size W)
  show Calls Try.prog 36 #[.agg #[.string x.f0, .string x.f1], .pointer (some ⟨B, 0, none⟩)] W _
  go_enter Try.func36, Try.ntmps36
  go_wp2
  go_ret
  exact ⟨rfl, by repeat (first | (with_reducible first | exact HB.out | apply pw_below_drewN | apply below_drew1) | (refine (HB.out.alloc HB.out.size _)))⟩

def tags_Drop.f (l0 : List (S34)) (a1 : ByteArray) : Option (List (S34)) := if l0.length ≤ 8796093022208 then some (l0.filter (fun x => !keyIs a1 x)) else none
set_option maxHeartbeats 4000000 in
set_option maxRecDepth 100000 in
theorem tags_Drop.calls (A0 : Option Addr) (c0 : Nat) (l0 : List (S34)) (a1 : ByteArray) (r : List (S34)) (w : World) (hr0 : Kd.C k34 w A0 l0.length l0) (hc0 : l0.length ≤ c0) (h : tags_Drop.f l0 a1 = some r) :
    Calls Try.prog 22 #[.slice A0 l0.length c0, .string a1] w fun e w' => ∃ v0_ : Value, e = .returned (v0_) ∧ Kd.R k34 34 w' w.heap.size (fun _ => True) v0_ r ∧ Below w.heap.size w w' := by
  unfold tags_Drop.f at h
  by_cases hb : l0.length ≤ 8796093022208
  case neg => rw [if_neg hb] at h; cases h
  rw [if_pos hb] at h
  obtain rfl := Option.some.inj h
  clear h
  have eg : ∀ args w, (callFunc 36 args).run Try.prog w = .ok (.enter 36 args) w := enters_of Try.func36 (by kernel_rfl) rfl
  have hed := edx25 A0 c0 l0 w.heap.size (w.alloc (.cells #[.string a1] 9)) (Kd.C_alloc hr0 _) hb (by simp)
  have hdel : ∀ (A : Option Addr) (w1 : World), Kd.R k34 34 w1 w.heap.size (fun _ => True) (.slice A l0.length l0.length) l0 → Below (w.alloc (.cells #[.string a1] 9)).heap.size (w.alloc (.cells #[.string a1] 9)) w1 → (∀ k, (Value.slice A l0.length l0.length).ownBlock = some k → (w.alloc (.cells #[.string a1] 9)).heap.size ≤ k) →
      Calls Try.prog 35 #[.slice A l0.length l0.length, .func (.func 36) #[] #[.pointer (some ⟨w.heap.size, 0, none⟩)]] w1 fun e w' => ∃ v0_ : Value, e = .returned (v0_) ∧ Kd.R k34 34 w' w.heap.size (fun _ => True) v0_ (l0.filter (fun x => !keyIs a1 x)) ∧ Below w.heap.size w w' := by
    intro A w1 h1 h2 h3
    have hcell : w1.cell? ⟨w.heap.size, 0, none⟩ = some (.string a1) := (h2.cell (p := ⟨w.heap.size, 0, none⟩) (by simp)).trans (by simp)
    have hb0 : Below w.heap.size w w1 := ((Below.refl _ w).alloc (Nat.le_refl _) _).trans (h2.mono (by simp))
    have hsz := h2.size
    rw [show (w.alloc (.cells #[.string a1] 9)).heap.size = w.heap.size + 1 by simp] at hsz h3
    refine (df35 (keyIs a1) 36 #[.pointer (some ⟨w.heap.size, 0, none⟩)] eg w.heap.size A l0.length l0 w w1 h1 hb0 hb0.size ?_).mono ?_
    · intro W x hg
      have hs := hg.size
      refine closedBy36 a1 w.heap.size W x ?_ (by omega)
      have hblk := hg.block w.heap.size (by omega) (fun he => by have := h3 _ he.symm; omega)
      unfold World.cell? at hcell ⊢
      rw [hblk]
      exact hcell
    · rintro e w' ⟨rfl, g1, g2, _⟩
      exact ⟨_, rfl, g1, g2⟩
  clear hr0
  generalize l0.filter (fun x => !keyIs a1 x) = r at hdel ⊢
  go_enter Try.func22, Try.ntmps22
  go_wp2_with (first | (go_at_call 25; refine hed.mono ?_; rintro e w1 ⟨A1, rfl, h1, h2, h3⟩; have HD := Aside0.mk (hdel A1 w1 h1 h2 h3); clear h1 h2 h3) | (go_at_call 35; refine HD.out.mono ?_; rintro e w2 ⟨v2, rfl, h4, h5⟩))
  go_ret
  exact ⟨_, rfl, h4, h5⟩


/-! ### mapmakerref06_Drop: function 23 -/
def mapmakerref06_Drop.l0 : Nat → List (S34) → ByteArray → List (S34) → Int → Option ((List (S34)))
  | 0, _, _, _, _ => none
  | k + 1, x0, x1, x5, x6 => if x6 < (x0.length : Int) then (if 0 ≤ x6 then (if ((rd_T34 x0 x6).f0).toList = x1.toList then (mapmakerref06_Drop.l0 k x0 x1 x5 (wrap64 (x6 + 1))) else (if x5.length < 4398046511104 then (mapmakerref06_Drop.l0 k x0 x1 (x5 ++ [(⟨(rd_T34 x0 x6).f0, (rd_T34 x0 x6).f1⟩ : S34)]) (wrap64 (x6 + 1))) else (none))) else (none)) else (some x5)
def mapmakerref06_Drop.f (k : Nat) (l0 : List (S34)) (a1 : ByteArray) : Option ((List (S34))) := mapmakerref06_Drop.l0 k l0 a1 ([] : List (S34)) 0
theorem mapmakerref06_Drop.mono_l : ∀ k, (∀ y0 y1 y2 y3, LeO (mapmakerref06_Drop.l0 k y0 y1 y2 y3) (mapmakerref06_Drop.l0 (k + 1) y0 y1 y2 y3))
  | 0 => fun _ _ _ _ r h => by simp [mapmakerref06_Drop.l0] at h
  | k + 1 => by
    have ih0 := mapmakerref06_Drop.mono_l k
    · intro y0 y1 y2 y3
      unfold mapmakerref06_Drop.l0
      repeat' first
      | (with_reducible exact ih0 _ _ _ _)
      | (with_reducible exact LeO.refl _)
      | (with_reducible exact LeO.none _)
      | (with_reducible refine LeO.ite ?_ ?_)
      | (with_reducible refine LeO.bind ?_ (fun _ => ?_))
      | exact ih0 _ _ _ _
      | exact LeO.none _
      | refine LeO.ite ?_ ?_
      | refine LeO.bind ?_ (fun _ => ?_)
theorem mapmakerref06_Drop.mono : ∀ a0 a1 k, LeO (mapmakerref06_Drop.f k a0 a1) (mapmakerref06_Drop.f (k + 1) a0 a1) := by
  intro a0 a1 k
  have ih0 := mapmakerref06_Drop.mono_l k
  unfold mapmakerref06_Drop.f
  repeat' first
      | (with_reducible exact ih0 _ _ _ _)
      | (with_reducible exact LeO.refl _)
      | (with_reducible exact LeO.none _)
      | (with_reducible refine LeO.ite ?_ ?_)
      | (with_reducible refine LeO.bind ?_ (fun _ => ?_))
      | exact ih0 _ _ _ _
      | exact LeO.none _
      | refine LeO.ite ?_ ?_
      | refine LeO.bind ?_ (fun _ => ?_)
set_option maxHeartbeats 8000000 in
set_option maxRecDepth 100000 in
theorem mapmakerref06_Drop.calls (k : Nat) (A0 : Option Addr) (c0 : Nat) (l0 : List (S34)) (a1 : ByteArray) (r : List (S34)) (w : World) (hr0 : Kd.C k34 w A0 l0.length l0) (hc0 : l0.length ≤ c0) (h : mapmakerref06_Drop.f k l0 a1 = some r) :
    Calls Try.prog 23 #[.slice A0 l0.length c0, .string a1] w fun e w' => ∃ v0_ : Value, e = .returned (v0_) ∧ Kd.R k34 34 w' w.heap.size (fun _ => True) v0_ r ∧ Below w.heap.size w w' := by
  have hu34 := Try.underlying34
  have HR0 := Aside0.mk hr0
  have HC0 := Aside0.mk hc0
  clear hr0 hc0
  have HB := Aside0.mk (Below.refl w.heap.size w)
  have H : (mapmakerref06_Drop.l0 k l0 a1 ([] : List (S34)) 0) = some r := h
  clear h
  have H' := Aside0.mk H
  clear H
  go_enter Try.func23, Try.ntmps23
  go_wp2
  go_loopg [5, 6] k (fun kq v5 v6 w' => ∃ (x5_1 : List (S34)) (x6_1 : Int), v6 = .int .i64 x6_1 ∧ Aside0 (mapmakerref06_Drop.l0 kq l0 a1 x5_1 x6_1 = some r) ∧ Aside0 (kq ≤ k) ∧ Aside0 (Kd.R k34 34 w' w.heap.size (fun _ => True) v5 x5_1) ∧ Aside0 (Below w.heap.size w w'))
  case atStart => exact ⟨(([] : List (S34))), (0), (by first | rfl | (simp; done) | (simp [*]; done)), H', ⟨Nat.le_refl _⟩, ⟨by first | exact Kd.R_nil _ _ _ _ _ | exact Kd.N_nil _ _ _ _ _ | exact Kd.V_nil _ _ _ _ _ | exact Kd.Q_nil _ _ _ _ _ | exact Kd.S_nil _ _ _ _ _⟩, ⟨by repeat (first | (with_reducible first | exact HB.out | apply below_alloc | apply pw_below_drewN | apply below_drew1) | exact HB.out)⟩⟩
  case round =>
    clear H'
    try clear c2
    try clear p2
    obtain ⟨x5_1, x6_1, rfl, HA, HK1, HO_5, HB⟩ := hrel
    cases gk with
    | zero => exact absurd HA.out (by simp [mapmakerref06_Drop.l0])
    | succ k1 =>
      have H := HA.out
      clear HA
      simp only [mapmakerref06_Drop.l0] at H
      by_cases c3 : x6_1 < (l0.length : Int)
      · rw [if_pos c3] at H
        have c3b0 : decide (x6_1 < (l0.length : Int)) = true := decide_eq_true c3
        clear c3
        by_cases c4 : 0 ≤ x6_1
        · rw [if_pos c4] at H
          have c4b0 : decide (0 ≤ x6_1) = true := decide_eq_true c4
          clear c4
          by_cases c5 : ((rd_T34 l0 x6_1).f0).toList = a1.toList
          · rw [if_pos c5] at H
            have c5b0 : (((rd_T34 l0 x6_1).f0).toList == a1.toList) = true := beq_iff_eq.mpr c5
            have c5b1 : (((rd_T34 l0 x6_1).f0).toList != a1.toList) = false := bne_eq_false_iff_eq.mpr c5
            clear c5
            have H' := Aside0.mk H
            clear H
            have p176 : 0 ≤ (x6_1 : Int) := of_decide_eq_true (by first | (with_reducible assumption) | assumption)
            have q176 : x6_1 < (l0.length : Int) := of_decide_eq_true (by first | (with_reducible assumption) | assumption)
            obtain ⟨ad176, e176, hx176_0, hx176_1⟩ := at_T34 HR0.out x6_1 p176 q176
            cases e176
            replace hx176_0 := (HB.out.cell (World.block_lt_of_cell? w _ hx176_0)).trans hx176_0
            replace hx176_1 := (HB.out.cell (World.block_lt_of_cell? w _ hx176_1)).trans hx176_1
            replace p176 := eq_true p176
            replace q176 := eq_true q176
            go_wp2
            go_roundg k1
            case measure => have := HK1.out; omega
            case rel => exact ⟨(x5_1), (wrap64 (x6_1 + 1)), (by first | rfl | (simp; done) | (simp [*]; done)), H', ⟨by have := HK1.out; omega⟩, ⟨by (with_reducible repeat (first | apply Kd.R_alloc | apply Kd.R_drewN | apply Kd.R_drew)); exact HO_5.out⟩, ⟨by repeat (first | (with_reducible first | exact HB.out | apply below_alloc | apply pw_below_drewN | apply below_drew1) | exact HB.out)⟩⟩
          · rw [if_neg c5] at H
            have c5b0 : (((rd_T34 l0 x6_1).f0).toList == a1.toList) = false := beq_eq_false_iff_ne.mpr c5
            have c5b1 : (((rd_T34 l0 x6_1).f0).toList != a1.toList) = true := bne_iff_ne.mpr c5
            by_cases c6 : x5_1.length < 4398046511104
            · rw [if_pos c6] at H
              have LMc6 := Aside0.mk c6
              clear c6
              obtain ⟨y178, hy178⟩ : ∃ y_ : List (S34), y_ = (x5_1 ++ [(⟨(rd_T34 l0 x6_1).f0, (rd_T34 l0 x6_1).f1⟩ : S34)]) := ⟨_, rfl⟩
              replace H : (mapmakerref06_Drop.l0 k1 l0 a1 y178 (wrap64 (x6_1 + 1))) = some r := by first | (rw [hy178]; with_reducible exact H) | (have H2_ := (Option.bind_some _ _).symm.trans H; rw [hy178]; with_reducible exact H2_) | (have H2_ := (Option.bind_some _ _).symm.trans H; with_reducible exact H2_) | with_reducible exact H | (rw [hy178]; exact H) | exact H
              have Ny178 := Aside0.mk hy178
              clear hy178
              have H' := Aside0.mk H
              clear H
              have p176 : 0 ≤ (x6_1 : Int) := of_decide_eq_true (by first | (with_reducible assumption) | assumption)
              have q176 : x6_1 < (l0.length : Int) := of_decide_eq_true (by first | (with_reducible assumption) | assumption)
              obtain ⟨ad176, e176, hx176_0, hx176_1⟩ := at_T34 HR0.out x6_1 p176 q176
              cases e176
              replace hx176_0 := (HB.out.cell (World.block_lt_of_cell? w _ hx176_0)).trans hx176_0
              replace hx176_1 := (HB.out.cell (World.block_lt_of_cell? w _ hx176_1)).trans hx176_1
              replace p176 := eq_true p176
              replace q176 := eq_true q176
              have p177 : 0 ≤ (x6_1 : Int) := of_decide_eq_true (by first | (with_reducible assumption) | assumption)
              have q177 : x6_1 < (l0.length : Int) := of_decide_eq_true (by first | (with_reducible assumption) | assumption)
              obtain ⟨ad177, e177, hx177_0, hx177_1⟩ := at_T34 HR0.out x6_1 p177 q177
              obtain rfl : ad176 = ad177 := (by injection e177)
              replace hx177_0 := (HB.out.cell (World.block_lt_of_cell? w _ hx177_0)).trans hx177_0
              replace hx177_1 := (HB.out.cell (World.block_lt_of_cell? w _ hx177_1)).trans hx177_1
              replace p177 := eq_true p177
              replace q177 := eq_true q177
              go_wp2_with (first | ((with_reducible refine gate_builtin (b := .append) (xs := #[.tmp 20, .tmp 25]) rfl ?_); at_builtin; refine Kd.R_append k34 (w0 := w) w.heap.size rfl (.tmp 20) (.tmp 25) 22 34 (.agg #[(.string ⟨#[]⟩), (.string ⟨#[]⟩)]) 32 rfl Try.underlying22 info34 rfl (by decide) (by omega) u5 x5_1 (⟨(rd_T34 l0 x6_1).f0, (rd_T34 l0 x6_1).f1⟩ : S34) [.string ((rd_T34 l0 x6_1).f0), .string ((rd_T34 l0 x6_1).f1)] (fun _ => True) (fun _ => False) rfl rfl ?aP (fun _ hk => hk.elim) ?aF ?aO ?aB ?aS ?aL ?_; (case aP => exact k34_mkM _ _ _ (⟨(rd_T34 l0 x6_1).f0, (rd_T34 l0 x6_1).f1⟩ : S34)); (case aB => exact (by repeat (first | (with_reducible first | exact HB.out | apply below_alloc | apply pw_below_drewN | apply below_drew1) | exact HB.out))); (case aF => exact (fun _ _ => trivial)); (case aO => exact (by (with_reducible repeat (first | apply Kd.R_alloc | apply Kd.R_drewN | apply Kd.R_drew)); exact HO_5.out)); (case aS => exact (below_size (by repeat (first | (with_reducible first | exact HB.out | apply below_alloc | apply pw_below_drewN | apply below_drew1) | exact HB.out)))); (case aL => have := LMc6.out; omega); intro v179 w7 ho hb hg hat; rw [← Ny178.out] at ho; have n0_ := Aside0.mk (hb); have n1_ := Aside0.mk (ho); clear HB; clear HO_5; have HB := n0_; have HO180 := n1_; clear n0_ n1_; clear ho hb hg hat))
              go_roundg k1
              case measure => have := HK1.out; omega
              case rel => exact ⟨(y178), (wrap64 (x6_1 + 1)), (by first | rfl | (simp; done) | (simp [*]; done)), H', ⟨by have := HK1.out; omega⟩, ⟨by (with_reducible repeat (first | apply Kd.R_alloc | apply Kd.R_drewN | apply Kd.R_drew)); exact HO180.out⟩, ⟨by repeat (first | (with_reducible first | exact HB.out | apply below_alloc | apply pw_below_drewN | apply below_drew1) | exact HB.out)⟩⟩
            · rw [if_neg c6] at H
              exact absurd H (by simp)
        · rw [if_neg c4] at H
          exact absurd H (by simp)
      · rw [if_neg c3] at H
        have c3b0 : decide (x6_1 < (l0.length : Int)) = false := decide_eq_false c3
        clear c3
        obtain rfl := Option.some.inj H
        go_wp2
        go_ret
        exact ⟨_, by first | rfl | (simp [errW_none, errW_some] <;> rfl) | (simp [*, errW_none, errW_some] <;> rfl), by (with_reducible repeat (first | apply Kd.R_alloc | apply Kd.R_drewN | apply Kd.R_drew)); exact HO_5.out, by repeat (first | (with_reducible first | exact HB.out | apply below_alloc | apply pw_below_drewN | apply below_drew1) | exact HB.out)⟩

end Go.Proofs.Ytipjmmppplepjaa.PEd
