-- out of a driver of this session's prover over the kit's print: Lean checks it
import Derived.Test.YtijoaohckgbneaaGreatPAllx0
import Derived.Test.YtijoaohckgbneaaGreatPAllx6
import Derived.Test.YtijoaohckgbneaaGreatPAllx7
import Derived.Test.YtijoaohckgbneaaGreatPAllx8
namespace Go.Proofs.YtijoaohckgbneaaGreat.PAll
open Go.Proofs.YtijoaohckgbneaaGreatG Go.Shelf Go.Lib
open Go.RowKit Go.Proofs.YtijoaohckgbneaaGreatW.PrintWords Go.Proofs.YtijoaohckgbneaaGreatW.PrintLast Go.Proofs.YtijoaohckgbneaaGreatW.PrintMore
attribute [local go_sem] max2_int min2_int max_two min_two max_three min_three max_four min_four   -- for this text's walks alone
set_option linter.unusedVariables false
set_option linter.unusedSimpArgs false
mutual
def data_checker_checkRels.l0 : Nat → List (S43) → Int → Int → List (S37) → List (S40) → List (S43) → Option (Int)
 | 0, _, _, _, _, _, _ => none
 | k + 1, x8, x9, x10, x130000, x130001, x130002 => if x10 < x9 then (if 0 ≤ x10 then (if x10 < (x8.length : Int) then ((data_ids_by_data_checker_checkRels_1.f x10 x130000 x130001 x130002).bind fun t132 => (if t132 = 0 then (if (((rd_T43 x8 x10).f1).length : Int) > 200 then (data_checker_checkRels.j1 k x8 x9 x10 true x130000 x130001 x130002 ((rd_T43 x8 x10).f0) ((rd_T43 x8 x10).f1) ((rd_T43 x8 x10).f2)) else ((api_Member_by_data_checker_checkRels_2.f ((rd_T43 x8 x10).f1)).bind fun t133 => (data_checker_checkRels.j1 k x8 x9 x10 t133 x130000 x130001 x130002 ((rd_T43 x8 x10).f0) ((rd_T43 x8 x10).f1) ((rd_T43 x8 x10).f2)))) else (some t132))) else (none)) else (none)) else (some 0)
def data_checker_checkRels.j1 : Nat → List (S43) → Int → Int → Bool → List (S37) → List (S40) → List (S43) → Int → List (S112) → List (S129) → Option (Int)
 | 0, _, _, _, _, _, _, _, _, _, _ => none
 | k + 1, x8, x9, x10, x24, x130000, x130001, x130002, x132000, x132001, x132002 => if x24 = true then (if 5 = 0 then (data_checker_checkRels.l0 k x8 x9 (wrap64 (x10 + 1)) x130000 x130001 x130002) else (some 5)) else ((api_Member_by_data_checker_missing.f x132001 x130000 x130001 x130002).bind fun t134 => (if t134 = true then (if 9 = 0 then (data_checker_checkRels.l0 k x8 x9 (wrap64 (x10 + 1)) x130000 x130001 x130002) else (some 9)) else ((tags_Check.f k x132002).bind fun t135 => (if t135 = 0 then (data_checker_checkRels.l0 k x8 x9 (wrap64 (x10 + 1)) x130000 x130001 x130002) else (some t135)))))
end
def data_checker_checkRels.f (k : Nat) (l0_0 : List (S37)) (l0_1 : List (S40)) (l0_2 : List (S43)) : Option (Int) := data_checker_checkRels.l0 k l0_2 (l0_2.length : Int) 0 l0_0 l0_1 l0_2
theorem data_checker_checkRels.mono_l : ∀ k, (∀ y0 y1 y2 y3 y4 y5, LeO (data_checker_checkRels.l0 k y0 y1 y2 y3 y4 y5) (data_checker_checkRels.l0 (k + 1) y0 y1 y2 y3 y4 y5)) ∧ (∀ y0 y1 y2 y3 y4 y5 y6 y7 y8 y9, LeO (data_checker_checkRels.j1 k y0 y1 y2 y3 y4 y5 y6 y7 y8 y9) (data_checker_checkRels.j1 (k + 1) y0 y1 y2 y3 y4 y5 y6 y7 y8 y9))
 | 0 => ⟨fun _ _ _ _ _ _ r h => by simp [data_checker_checkRels.l0] at h, fun _ _ _ _ _ _ _ _ _ _ r h => by simp [data_checker_checkRels.j1] at h⟩
 | k + 1 => by
  obtain ⟨ih0, ih1⟩ := data_checker_checkRels.mono_l k
  refine ⟨?_, ?_⟩
  ·intro y0 y1 y2 y3 y4 y5
   unfold data_checker_checkRels.l0
   repeat' first
   | (with_reducible exact ih0 _ _ _ _ _ _)
   | (with_reducible exact ih1 _ _ _ _ _ _ _ _ _ _)
   | (with_reducible exact tags_Check.mono _ _)
   | (with_reducible exact LeO.refl _)
   | (with_reducible exact LeO.none _)
   | (with_reducible refine LeO.ite ?_ ?_)
   | (with_reducible refine LeO.bind ?_ (fun _ => ?_))
   | exact ih0 _ _ _ _ _ _
   | exact ih1 _ _ _ _ _ _ _ _ _ _
   | exact tags_Check.mono _ _
   | exact LeO.none _
   | refine LeO.ite ?_ ?_
   | refine LeO.bind ?_ (fun _ => ?_)
  ·intro y0 y1 y2 y3 y4 y5 y6 y7 y8 y9
   unfold data_checker_checkRels.j1
   repeat' first
   | (with_reducible exact ih0 _ _ _ _ _ _)
   | (with_reducible exact ih1 _ _ _ _ _ _ _ _ _ _)
   | (with_reducible exact tags_Check.mono _ _)
   | (with_reducible exact LeO.refl _)
   | (with_reducible exact LeO.none _)
   | (with_reducible refine LeO.ite ?_ ?_)
   | (with_reducible refine LeO.bind ?_ (fun _ => ?_))
   | exact ih0 _ _ _ _ _ _
   | exact ih1 _ _ _ _ _ _ _ _ _ _
   | exact tags_Check.mono _ _
   | exact LeO.none _
   | refine LeO.ite ?_ ?_
   | refine LeO.bind ?_ (fun _ => ?_)
theorem data_checker_checkRels.mono : ∀ a0 a1 a2 k, LeO (data_checker_checkRels.f k a0 a1 a2) (data_checker_checkRels.f (k + 1) a0 a1 a2) := by
 intro a0 a1 a2 k; obtain ⟨ih0, ih1⟩ := data_checker_checkRels.mono_l k; unfold data_checker_checkRels.f
 repeat' first
   | (with_reducible exact ih0 _ _ _ _ _ _)
   | (with_reducible exact ih1 _ _ _ _ _ _ _ _ _ _)
   | (with_reducible exact tags_Check.mono _ _)
   | (with_reducible exact LeO.refl _)
   | (with_reducible exact LeO.none _)
   | (with_reducible refine LeO.ite ?_ ?_)
   | (with_reducible refine LeO.bind ?_ (fun _ => ?_))
   | exact ih0 _ _ _ _ _ _
   | exact ih1 _ _ _ _ _ _ _ _ _ _
   | exact tags_Check.mono _ _
   | exact LeO.none _
   | refine LeO.ite ?_ ?_
   | refine LeO.bind ?_ (fun _ => ?_)
set_option maxHeartbeats 8000000 in
set_option maxRecDepth 100000 in
theorem data_checker_checkRels.calls (k M1 M2 : Nat) (A0_0 : Option Addr) (c0_0 : Nat) (l0_0 : List (S37)) (A0_1 : Option Addr) (c0_1 : Nat) (l0_1 : List (S40)) (A0_2 : Option Addr) (c0_2 : Nat) (l0_2 : List (S43)) (r : Int) (w : World) (hr0_0 : Kd.C k37 w A0_0 l0_0.length l0_0) (hc0_0 : l0_0.length ≤ c0_0) (hr0_1 : Kd.C k40 w A0_1 l0_1.length l0_1) (hc0_1 : l0_1.length ≤ c0_1) (hr0_2 : Kd.C k43 w A0_2 l0_2.length l0_2) (hc0_2 : l0_2.length ≤ c0_2) (hm1 : HasIds w M1 (l0_0.map (fun x => x.f0))) (hm2 : HasIds w M2 (l0_1.map (fun x => x.f0))) (h : data_checker_checkRels.f k l0_0 l0_1 l0_2 = some r) :
  Calls Tryz.prog 52 #[.agg #[.slice A0_0 l0_0.length c0_0, .slice A0_1 l0_1.length c0_1, .slice A0_2 l0_2.length c0_2, .map (some M1), .map (some M2)]] w fun e w' => e = .returned (.int .i64 r) ∧ Below w.heap.size w w' := by
 have hu26 := Tryz.underlying26; have hu43 := Tryz.underlying43; have HR0_0 := aM hr0_0; have HC0_0 := aM hc0_0; clear hr0_0 hc0_0; have HR0_1 := aM hr0_1; have HC0_1 := aM hc0_1; clear hr0_1 hc0_1; have HR0_2 := aM hr0_2; have HC0_2 := aM hc0_2; clear hr0_2 hc0_2; have HB := aM (Below.refl w.heap.size w); have HM1 := aM hm1; have HM2 := aM hm2; clear hm1 hm2; have hu98 := Tryz.underlying98; have H : (data_checker_checkRels.l0 k l0_2 (l0_2.length : Int) 0 l0_0 l0_1 l0_2) = some r := h; clear h; have H' := aM H; clear H; go_enter Tryz.func52, Tryz.ntmps52
 go_wp2_with (first | ((with_reducible refine gate_dst (N := 1) rfl ?_); refine bx (N := 1) (cs := #[.slice A0_0 l0_0.length c0_0, .slice A0_1 l0_1.length c0_1, .slice A0_2 l0_2.length c0_2, .map (some M1), .map (some M2)]) (t := 98) ?_; intro gb129 hg w2 hbox hb; have BK129 := aM (hbox); have GE129 := aM (gw (w := w) hg); replace HB := aM (bS (bl) hb); clear hb hbox hg; have hcz3_0 : w2.cell? ⟨gb129, 0, none⟩ = some (.slice A0_0 l0_0.length c0_0) := (kC BK129.out 0).trans rfl; have hcz3_1 : w2.cell? ⟨gb129, 1, none⟩ = some (.slice A0_1 l0_1.length c0_1) := (kC BK129.out 1).trans rfl; have hcz3_2 : w2.cell? ⟨gb129, 2, none⟩ = some (.slice A0_2 l0_2.length c0_2) := (kC BK129.out 2).trans rfl; have hfz3_0 := kF BK129.out 0; have hfz3_1 := kF BK129.out 1; have hfz3_2 := kF BK129.out 2))
 go_loopg [10] k (fun kq v10 w' => ∃ (x10_1 : Int), v10 = .int .i64 x10_1 ∧ Aside0 (data_checker_checkRels.l0 kq l0_2 (l0_2.length : Int) x10_1 l0_0 l0_1 l0_2 = some r) ∧ Aside0 (kq ≤ k) ∧ Aside0 (w'.heap[gb129]? = some (.cells #[(.slice A0_0 l0_0.length c0_0), (.slice A0_1 l0_1.length c0_1), (.slice A0_2 l0_2.length c0_2), .map (some M1), .map (some M2)] 98 (0, 0))) ∧ Aside0 (Below w.heap.size w w'))
 case atStart => exact ⟨(0), (by first | rfl | (simp; done) | (simp [*]; done)), H', ⟨Nat.le_refl _⟩, ⟨kl BK129⟩, ⟨bl⟩⟩
 case round =>
  clear H'; (try clear hcz3_0 hcz3_1 hcz3_2 hfz3_0 hfz3_1 hfz3_2); obtain ⟨x10_1, rfl, HA, HK1, BK129, HB⟩ := hrel
  cases gk with
  | zero => exact absurd HA.out (by simp [data_checker_checkRels.l0])
  | succ k1 =>
   have H := HA.out; clear HA; simp only [data_checker_checkRels.l0] at H
   by_cases c4 : x10_1 < (l0_2.length : Int)
   ·rw [if_pos c4] at H; have c4b0 : decide (x10_1 < (l0_2.length : Int)) = true := decide_eq_true c4; clear c4
    by_cases c5 : 0 ≤ x10_1
    ·rw [if_pos c5] at H; have c5b0 : decide (0 ≤ x10_1) = true := decide_eq_true c5; clear c5
     by_cases c6 : x10_1 < (l0_2.length : Int)
     ·rw [if_pos c6] at H; have c6b0 : decide (x10_1 < (l0_2.length : Int)) = true := decide_eq_true c6; clear c6; replace H := Option.bind_eq_some_iff.mp H; obtain ⟨t132, A70, H⟩ := H; (try dsimp only at H); have A7 := aM A70; clear A70
      by_cases c8 : t132 = 0
      ·rw [if_pos c8] at H; have c8b0 : (t132 == 0) = true := beq_iff_eq.mpr c8; have c8b1 : (t132 != 0) = false := bne_eq_false_iff_eq.mpr c8; clear c8; have HC9 := aM H; clear H; have p130 : 0 ≤ (x10_1 : Int) := oT; have q130 : x10_1 < (l0_2.length : Int) := oT; obtain ⟨ad130, A130_1, c130_1, A130_2, c130_2, e130, hx130_0, hx130_1, hx130_2, hl130_1, hi130_1, hl130_2, hi130_2⟩ := at_T43 HR0_2.out x10_1 p130 q130; cases e130
       replace hx130_0 := hs HB.out hx130_0; replace hx130_1 := hs HB.out hx130_1; replace hx130_2 := hs HB.out hx130_2; have HR130_1 := aM hi130_1; have HC130_1 := aM hl130_1; clear hi130_1 hl130_1; have HR130_2 := aM hi130_2; have HC130_2 := aM hl130_2; clear hi130_2 hl130_2; replace p130 := eq_true p130; replace q130 := eq_true q130
       go_upto_region 7 with (first | ((with_reducible refine gate_dst (N := 4) rfl ?_); refine bx (N := 4) (cs := #[.int .i64 0, .slice none 0 0, .slice none 0 0]) (t := 43) ?_; intro gb131 hg w10 hbox hb; have BK131 := aM (hbox); have GE131 := aM (gw (w := w) hg); obtain ⟨NB129_131, NB131_129⟩ := n2 BK129 hg; replace BK129 := aM (kB (kl BK129) hb); replace HB := aM (bS (bl) hb); clear hb hbox hg; have hn11 := nn NB131_129; have hz12 := bc3 BK131; have hcz13_0 : w10.cell? ⟨gb129, 0, none⟩ = some (.slice A0_0 l0_0.length c0_0) := (kC BK129.out 0).trans rfl; have hcz13_1 : w10.cell? ⟨gb129, 1, none⟩ = some (.slice A0_1 l0_1.length c0_1) := (kC BK129.out 1).trans rfl; have hcz13_2 : w10.cell? ⟨gb129, 2, none⟩ = some (.slice (some ad130) l0_2.length c0_2) := (kC BK129.out 2).trans rfl; have hfz13_0 := kF BK129.out 0; have hfz13_1 := kF BK129.out 1; have hfz13_2 := kF BK129.out 2) | ((with_reducible refine gate_callee (f := 67) rfl ?_); refine goesL_ (some 17) rfl rfl Tryz.func67 (by kernel_rfl) rfl #[.int .i64 x10_1, .func (.func 73) #[] #[.pointer (some ⟨gb129, 0, none⟩)]] rfl (by (try simp only [List.map_toArray, List.map_cons, List.map_nil]); first | done | rfl | (simp only [List.length_drop, List.length_take]; rfl)) ?_; (with_reducible refine (data_ids_by_data_checker_checkRels_1.callsB gb129 M1 M2 x10_1 A0_0 c0_0 l0_0 A0_1 c0_1 l0_1 (some ad130) c0_2 l0_2 t132 _ ?side1 ?side2 ?side3 ?side4 ?side5 ?side6 ?sideB A7.out).mono ?_); (case sideB => exact (bk BK129)); (case side1 => exact Kd.C_below HR0_0.out (bl)); (case side2 => exact HC0_0.out); (case side3 => exact Kd.C_below HR0_1.out (bl)); (case side4 => exact HC0_1.out); (case side5 => exact Kd.C_below HR0_2.out (bl)); (case side6 => exact HC0_2.out); rintro e w14 ⟨rfl, hb⟩; refine ⟨_, rfl, ?_⟩; replace BK129 := aM (kB (g := gb129) (o := .cells #[.slice A0_0 l0_0.length c0_0, .slice A0_1 l0_1.length c0_1, .slice (some ad130) l0_2.length c0_2, .map (some M1), .map (some M2)] 98 (0, 0)) (bk BK129) hb); replace BK131 := aM (kB (g := gb131) (o := .cells #[.int .i64 ((rd_T43 l0_2 x10_1).f0), .slice A130_1 ((rd_T43 l0_2 x10_1).f1).length c130_1, .slice A130_2 ((rd_T43 l0_2 x10_1).f2).length c130_2] 43 (0, 0)) (bk BK131) hb); replace HB := aM (bS (bl) hb); (try clear hb)))
       (try simp only [Act.put, sA, sB, sC])
       go_cut [24] (fun v24 wc => ∃ (kq : Nat) (x24_8 : Bool), v24 = .bool x24_8 ∧ Aside0 (data_checker_checkRels.j1 kq l0_2 (l0_2.length : Int) x10_1 x24_8 l0_0 l0_1 l0_2 ((rd_T43 l0_2 x10_1).f0) ((rd_T43 l0_2 x10_1).f1) ((rd_T43 l0_2 x10_1).f2) = some r) ∧ Aside0 (kq ≤ k1) ∧ Aside0 (wc.heap[gb129]? = some (.cells #[(.slice A0_0 l0_0.length c0_0), (.slice A0_1 l0_1.length c0_1), (.slice (some ad130) l0_2.length c0_2), .map (some M1), .map (some M2)] 98 (0, 0))) ∧ Aside0 (wc.heap[gb131]? = some (.cells #[.int .i64 ((rd_T43 l0_2 x10_1).f0), (.slice A130_1 ((rd_T43 l0_2 x10_1).f1).length c130_1), (.slice A130_2 ((rd_T43 l0_2 x10_1).f2).length c130_2)] 43 (0, 0))) ∧ Aside0 (Below w.heap.size w wc))
       case first =>
        have H := HC9.out; clear HC9
        by_cases c15 : (((rd_T43 l0_2 x10_1).f1).length : Int) > 200
        ·rw [if_pos c15] at H; have c15b0 : decide (200 < (((rd_T43 l0_2 x10_1).f1).length : Int)) = true := decide_eq_true c15; have c15b1 : decide (200 < ((rd_T43 l0_2 x10_1).f1).length) = true := decide_eq_true (by omega); clear c15
         (first | rw [c15b0] | (simp only [i64_w, i32_w]; rw [c15b0]) | skip)
         have H' := aM H; clear H; have hn16 := nn NB131_129; have hz17 := bc3 BK131
         go_wp2
         go_meet
         case rel => exact ⟨_, (true), (by first | rfl | (simp; done) | (simp [*]; done)), H', ⟨by have := HK1.out; first | omega | exact Nat.le_refl _⟩, ⟨kl BK129⟩, ⟨kl BK131⟩, ⟨bl⟩⟩
        ·rw [if_neg c15] at H; have c15b0 : decide (200 < (((rd_T43 l0_2 x10_1).f1).length : Int)) = false := decide_eq_false c15; have c15b1 : decide (200 < ((rd_T43 l0_2 x10_1).f1).length) = false := decide_eq_false (by omega); clear c15
         (first | rw [c15b0] | (simp only [i64_w, i32_w]; rw [c15b0]) | skip)
         replace H := Option.bind_eq_some_iff.mp H; obtain ⟨t133, A180, H⟩ := H; (try dsimp only at H); have A18 := aM A180; clear A180; have H' := aM H; clear H; have hn19 := nn NB131_129; have hz20 := bc3 BK131
         go_wp2_with (first | (go_at_call 74; (with_reducible refine (api_Member_by_data_checker_checkRels_2.calls _ _ ((rd_T43 l0_2 x10_1).f1) t133 _ ?side1 ?side2 A18.out).mono ?_); (case side1 => exact cl HR130_1); (case side2 => exact HC130_1.out); rintro e w21 ⟨rfl, hb⟩; replace BK129 := aM (kB (kl BK129) hb); replace BK131 := aM (kB (kl BK131) hb); replace HB := aM (bS (bl) hb); (try clear hb)))
         go_meet
         case rel => exact ⟨_, (t133), (by first | rfl | (simp; done) | (simp [*]; done)), H', ⟨by have := HK1.out; first | omega | exact Nat.le_refl _⟩, ⟨kl BK129⟩, ⟨kl BK131⟩, ⟨bl⟩⟩
       case rest =>
        clear HC9; (try clear c4); (try clear c4b0); (try clear c5); (try clear c5b0); (try clear c6); (try clear c6b0); (try clear c8); (try clear c8b0); (try clear c8b1); (try clear c15); (try clear c15b0); (try clear c15b1); (try clear hz12); (try clear hcz13_0 hcz13_1 hcz13_2 hfz13_0 hfz13_1 hfz13_2); (try clear hz17); (try clear hz20); (try clear hcz3_0 hcz3_1 hcz3_2 hfz3_0 hfz3_1 hfz3_2); (try clear hx130_0); (try clear hx130_1); (try clear hx130_2); (try clear p130); (try clear q130); obtain ⟨kq, x24_8, rfl, HA, HJ8, BK129, BK131, HB⟩ := hcut
        cases kq with
        | zero => exact absurd HA.out (by simp [data_checker_checkRels.j1])
        | succ kj8 =>
         have H := HA.out; clear HA; simp only [data_checker_checkRels.j1] at H
         by_cases c22 : x24_8 = true
         ·subst c22; have H1 : (if 5 = 0 then (data_checker_checkRels.l0 kj8 l0_2 (l0_2.length : Int) (wrap64 (x10_1 + 1)) l0_0 l0_1 l0_2) else (some 5)) = some r := by rw [if_pos rfl] at H; exact H
          clear H; have H := H1; clear H1
          by_cases c23 : 5 = 0
          ·exact absurd c23 (by decide)
          ·rw [if_neg c23] at H; have c23b0 : (5 == 0) = false := beq_eq_false_iff_ne.mpr c23; have c23b1 : (5 != 0) = true := bne_iff_ne.mpr c23; obtain rfl := Option.some.inj H
           go_wp2
           go_ret; exact ⟨by first | rfl | (simp [errW_none, errW_some] <;> rfl) | (simp [*, errW_none, errW_some] <;> rfl), bl⟩
         ·replace c22 := Bool.eq_false_iff.mpr c22; subst c22; have H1 : ((api_Member_by_data_checker_missing.f ((rd_T43 l0_2 x10_1).f1) l0_0 l0_1 l0_2).bind fun t134 => (if t134 = true then (if 9 = 0 then (data_checker_checkRels.l0 kj8 l0_2 (l0_2.length : Int) (wrap64 (x10_1 + 1)) l0_0 l0_1 l0_2) else (some 9)) else ((tags_Check.f kj8 ((rd_T43 l0_2 x10_1).f2)).bind fun t135 => (if t135 = 0 then (data_checker_checkRels.l0 kj8 l0_2 (l0_2.length : Int) (wrap64 (x10_1 + 1)) l0_0 l0_1 l0_2) else (some t135))))) = some r := by rw [if_neg (show ¬ (false = true) by decide)] at H; exact H
          clear H; have H := H1; clear H1; replace H := Option.bind_eq_some_iff.mp H; obtain ⟨t134, A240, H⟩ := H; (try dsimp only at H); have A24 := aM A240; clear A240
          by_cases c25 : t134 = true
          ·subst c25; have H1 : (if 9 = 0 then (data_checker_checkRels.l0 kj8 l0_2 (l0_2.length : Int) (wrap64 (x10_1 + 1)) l0_0 l0_1 l0_2) else (some 9)) = some r := by rw [if_pos rfl] at H; exact H
           clear H; have H := H1; clear H1
           by_cases c26 : 9 = 0
           ·exact absurd c26 (by decide)
           ·rw [if_neg c26] at H; have c26b0 : (9 == 0) = false := beq_eq_false_iff_ne.mpr c26; have c26b1 : (9 != 0) = true := bne_iff_ne.mpr c26; obtain rfl := Option.some.inj H; have hn31 := nn NB131_129; have hz32 := bc3 BK131; have hz33 := bc5 BK129
            go_wp2_with (first | ((with_reducible refine gate_callee (f := 74) rfl ?_); refine goesL_ (some 39) rfl rfl Tryz.func74 (by kernel_rfl) rfl #[.slice A130_1 ((rd_T43 l0_2 x10_1).f1).length c130_1, .func (.func 76) #[.agg #[.slice A0_0 l0_0.length c0_0, .slice A0_1 l0_1.length c0_1, .slice (some ad130) l0_2.length c0_2, .map (some M1), .map (some M2)]] #[]] rfl (by (try simp only [List.map_toArray, List.map_cons, List.map_nil]); first | done | rfl | (simp only [List.length_drop, List.length_take]; rfl)) ?_; (with_reducible refine (api_Member_by_data_checker_missing.callsB gb129 M1 M2 _ _ ((rd_T43 l0_2 x10_1).f1) A0_0 c0_0 l0_0 A0_1 c0_1 l0_1 (some ad130) c0_2 l0_2 true _ ?side1 ?side2 ?side3 ?side4 ?side5 ?side6 ?side7 ?side8 ?sideB ?sideM1 ?sideM2 A24.out).mono ?_); (case sideB => exact (kl BK129)); (case sideM1 => exact HM1.out.below (bl)); (case sideM2 => exact HM2.out.below (bl)); (case side1 => exact cl HR130_1); (case side2 => exact HC130_1.out); (case side3 => exact cl HR0_0); (case side4 => exact HC0_0.out); (case side5 => exact cl HR0_1); (case side6 => exact HC0_1.out); (case side7 => exact cl HR0_2); (case side8 => exact HC0_2.out); rintro e w34 ⟨rfl, hb⟩; refine ⟨_, rfl, ?_⟩; replace BK129 := aM (kB (kl BK129) hb); replace HB := aM (bS (bl) hb); clear BK131; (try clear hb)))
            go_ret; exact ⟨by first | rfl | (simp [errW_none, errW_some] <;> rfl) | (simp [*, errW_none, errW_some] <;> rfl), bl⟩
          ·replace c25 := Bool.eq_false_iff.mpr c25; subst c25; have H1 : ((tags_Check.f kj8 ((rd_T43 l0_2 x10_1).f2)).bind fun t135 => (if t135 = 0 then (data_checker_checkRels.l0 kj8 l0_2 (l0_2.length : Int) (wrap64 (x10_1 + 1)) l0_0 l0_1 l0_2) else (some t135))) = some r := by rw [if_neg (show ¬ (false = true) by decide)] at H; exact H
           clear H; have H := H1; clear H1; replace H := Option.bind_eq_some_iff.mp H; obtain ⟨t135, A350, H⟩ := H; (try dsimp only at H); have A35 := aM A350; clear A350
           by_cases c36 : t135 = 0
           ·rw [if_pos c36] at H; have c36b0 : (t135 == 0) = true := beq_iff_eq.mpr c36; have c36b1 : (t135 != 0) = false := bne_eq_false_iff_eq.mpr c36; clear c36; have H' := aM H; clear H; have hn37 := nn NB131_129; have hz38 := bc3 BK131; have hz39 := bc5 BK129
            go_wp2_with (first | ((with_reducible refine gate_callee (f := 74) rfl ?_); refine goesL_ (some 39) rfl rfl Tryz.func74 (by kernel_rfl) rfl #[.slice A130_1 ((rd_T43 l0_2 x10_1).f1).length c130_1, .func (.func 76) #[.agg #[.slice A0_0 l0_0.length c0_0, .slice A0_1 l0_1.length c0_1, .slice (some ad130) l0_2.length c0_2, .map (some M1), .map (some M2)]] #[]] rfl (by (try simp only [List.map_toArray, List.map_cons, List.map_nil]); first | done | rfl | (simp only [List.length_drop, List.length_take]; rfl)) ?_; (with_reducible refine (api_Member_by_data_checker_missing.callsB gb129 M1 M2 _ _ ((rd_T43 l0_2 x10_1).f1) A0_0 c0_0 l0_0 A0_1 c0_1 l0_1 (some ad130) c0_2 l0_2 false _ ?side1 ?side2 ?side3 ?side4 ?side5 ?side6 ?side7 ?side8 ?sideB ?sideM1 ?sideM2 A24.out).mono ?_); (case sideB => exact (kl BK129)); (case sideM1 => exact HM1.out.below (bl)); (case sideM2 => exact HM2.out.below (bl)); (case side1 => exact cl HR130_1); (case side2 => exact HC130_1.out); (case side3 => exact cl HR0_0); (case side4 => exact HC0_0.out); (case side5 => exact cl HR0_1); (case side6 => exact HC0_1.out); (case side7 => exact cl HR0_2); (case side8 => exact HC0_2.out); rintro e w40 ⟨rfl, hb⟩; refine ⟨_, rfl, ?_⟩; replace BK129 := aM (kB (kl BK129) hb); replace BK131 := aM (kB (kl BK131) hb); replace HB := aM (bS (bl) hb); (try clear hb); have hz41 := bc3 BK131) | ((with_reducible refine gate_callee (f := 69) rfl ?_); refine goesL_ (some 20) rfl rfl Tryz.func69 (by kernel_rfl) rfl #[.slice A130_2 ((rd_T43 l0_2 x10_1).f2).length c130_2] rfl (by (try simp only [List.map_toArray, List.map_cons, List.map_nil]); first | done | rfl | (simp only [List.length_drop, List.length_take]; rfl)) ?_; (with_reducible refine (tags_Check.calls kj8 _ _ ((rd_T43 l0_2 x10_1).f2) t135 _ ?side1 ?side2 A35.out).mono ?_); (case side1 => exact cl HR130_2); (case side2 => exact HC130_2.out); rintro e w42 ⟨rfl, hb⟩; refine ⟨_, rfl, ?_⟩; replace BK129 := aM (kB (kl BK129) hb); replace BK131 := aM (kB (kl BK131) hb); replace HB := aM (bS (bl) hb); (try clear hb)))
            go_roundg kj8
            case measure => have := HK1.out; have := HJ8.out; omega
            case rel => exact ⟨(wrap64 (x10_1 + 1)), (by first | rfl | (simp; done) | (simp [*]; done)), H', ⟨by have := HK1.out; have := HJ8.out; omega⟩, ⟨kl BK129⟩, ⟨bl⟩⟩
           ·rw [if_neg c36] at H; have c36b0 : (t135 == 0) = false := beq_eq_false_iff_ne.mpr c36; have c36b1 : (t135 != 0) = true := bne_iff_ne.mpr c36; obtain rfl := Option.some.inj H; have hn43 := nn NB131_129; have hz44 := bc3 BK131; have hz45 := bc5 BK129
            go_wp2_with (first | ((with_reducible refine gate_callee (f := 74) rfl ?_); refine goesL_ (some 39) rfl rfl Tryz.func74 (by kernel_rfl) rfl #[.slice A130_1 ((rd_T43 l0_2 x10_1).f1).length c130_1, .func (.func 76) #[.agg #[.slice A0_0 l0_0.length c0_0, .slice A0_1 l0_1.length c0_1, .slice (some ad130) l0_2.length c0_2, .map (some M1), .map (some M2)]] #[]] rfl (by (try simp only [List.map_toArray, List.map_cons, List.map_nil]); first | done | rfl | (simp only [List.length_drop, List.length_take]; rfl)) ?_; (with_reducible refine (api_Member_by_data_checker_missing.callsB gb129 M1 M2 _ _ ((rd_T43 l0_2 x10_1).f1) A0_0 c0_0 l0_0 A0_1 c0_1 l0_1 (some ad130) c0_2 l0_2 false _ ?side1 ?side2 ?side3 ?side4 ?side5 ?side6 ?side7 ?side8 ?sideB ?sideM1 ?sideM2 A24.out).mono ?_); (case sideB => exact (kl BK129)); (case sideM1 => exact HM1.out.below (bl)); (case sideM2 => exact HM2.out.below (bl)); (case side1 => exact cl HR130_1); (case side2 => exact HC130_1.out); (case side3 => exact cl HR0_0); (case side4 => exact HC0_0.out); (case side5 => exact cl HR0_1); (case side6 => exact HC0_1.out); (case side7 => exact cl HR0_2); (case side8 => exact HC0_2.out); rintro e w46 ⟨rfl, hb⟩; refine ⟨_, rfl, ?_⟩; replace BK129 := aM (kB (kl BK129) hb); replace BK131 := aM (kB (kl BK131) hb); replace HB := aM (bS (bl) hb); (try clear hb); have hz47 := bc3 BK131) | ((with_reducible refine gate_callee (f := 69) rfl ?_); refine goesL_ (some 20) rfl rfl Tryz.func69 (by kernel_rfl) rfl #[.slice A130_2 ((rd_T43 l0_2 x10_1).f2).length c130_2] rfl (by (try simp only [List.map_toArray, List.map_cons, List.map_nil]); first | done | rfl | (simp only [List.length_drop, List.length_take]; rfl)) ?_; (with_reducible refine (tags_Check.calls kj8 _ _ ((rd_T43 l0_2 x10_1).f2) t135 _ ?side1 ?side2 A35.out).mono ?_); (case side1 => exact cl HR130_2); (case side2 => exact HC130_2.out); rintro e w48 ⟨rfl, hb⟩; refine ⟨_, rfl, ?_⟩; replace BK129 := aM (kB (kl BK129) hb); replace BK131 := aM (kB (kl BK131) hb); replace HB := aM (bS (bl) hb); (try clear hb)))
            go_ret; exact ⟨by first | rfl | (simp [errW_none, errW_some] <;> rfl) | (simp [*, errW_none, errW_some] <;> rfl), bl⟩
      ·rw [if_neg c8] at H; have c8b0 : (t132 == 0) = false := beq_eq_false_iff_ne.mpr c8; have c8b1 : (t132 != 0) = true := bne_iff_ne.mpr c8; obtain rfl := Option.some.inj H; have p130 : 0 ≤ (x10_1 : Int) := oT; have q130 : x10_1 < (l0_2.length : Int) := oT; obtain ⟨ad130, A130_1, c130_1, A130_2, c130_2, e130, hx130_0, hx130_1, hx130_2, hl130_1, hi130_1, hl130_2, hi130_2⟩ := at_T43 HR0_2.out x10_1 p130 q130; cases e130
       replace hx130_0 := hs HB.out hx130_0; replace hx130_1 := hs HB.out hx130_1; replace hx130_2 := hs HB.out hx130_2; have HR130_1 := aM hi130_1; have HC130_1 := aM hl130_1; clear hi130_1 hl130_1; have HR130_2 := aM hi130_2; have HC130_2 := aM hl130_2; clear hi130_2 hl130_2; replace p130 := eq_true p130; replace q130 := eq_true q130
       go_wp2_with (first | ((with_reducible refine gate_dst (N := 4) rfl ?_); refine bx (N := 4) (cs := #[.int .i64 0, .slice none 0 0, .slice none 0 0]) (t := 43) ?_; intro gb131 hg w49 hbox hb; have BK131 := aM (hbox); have GE131 := aM (gw (w := w) hg); obtain ⟨NB129_131, NB131_129⟩ := n2 BK129 hg; replace BK129 := aM (kB (kl BK129) hb); replace HB := aM (bS (bl) hb); clear hb hbox hg; have hn50 := nn NB131_129; have hz51 := bc3 BK131; have hcz52_0 : w49.cell? ⟨gb129, 0, none⟩ = some (.slice A0_0 l0_0.length c0_0) := (kC BK129.out 0).trans rfl; have hcz52_1 : w49.cell? ⟨gb129, 1, none⟩ = some (.slice A0_1 l0_1.length c0_1) := (kC BK129.out 1).trans rfl; have hcz52_2 : w49.cell? ⟨gb129, 2, none⟩ = some (.slice (some ad130) l0_2.length c0_2) := (kC BK129.out 2).trans rfl; have hfz52_0 := kF BK129.out 0; have hfz52_1 := kF BK129.out 1; have hfz52_2 := kF BK129.out 2) | ((with_reducible refine gate_callee (f := 67) rfl ?_); refine goesL_ (some 17) rfl rfl Tryz.func67 (by kernel_rfl) rfl #[.int .i64 x10_1, .func (.func 73) #[] #[.pointer (some ⟨gb129, 0, none⟩)]] rfl (by (try simp only [List.map_toArray, List.map_cons, List.map_nil]); first | done | rfl | (simp only [List.length_drop, List.length_take]; rfl)) ?_; (with_reducible refine (data_ids_by_data_checker_checkRels_1.callsB gb129 M1 M2 x10_1 A0_0 c0_0 l0_0 A0_1 c0_1 l0_1 (some ad130) c0_2 l0_2 t132 _ ?side1 ?side2 ?side3 ?side4 ?side5 ?side6 ?sideB A7.out).mono ?_); (case sideB => exact (bk BK129)); (case side1 => exact Kd.C_below HR0_0.out (bl)); (case side2 => exact HC0_0.out); (case side3 => exact Kd.C_below HR0_1.out (bl)); (case side4 => exact HC0_1.out); (case side5 => exact Kd.C_below HR0_2.out (bl)); (case side6 => exact HC0_2.out); rintro e w53 ⟨rfl, hb⟩; refine ⟨_, rfl, ?_⟩; replace BK129 := aM (kB (g := gb129) (o := .cells #[.slice A0_0 l0_0.length c0_0, .slice A0_1 l0_1.length c0_1, .slice (some ad130) l0_2.length c0_2, .map (some M1), .map (some M2)] 98 (0, 0)) (bk BK129) hb); replace BK131 := aM (kB (g := gb131) (o := .cells #[.int .i64 ((rd_T43 l0_2 x10_1).f0), .slice A130_1 ((rd_T43 l0_2 x10_1).f1).length c130_1, .slice A130_2 ((rd_T43 l0_2 x10_1).f2).length c130_2] 43 (0, 0)) (bk BK131) hb); replace HB := aM (bS (bl) hb); (try clear hb)))
       go_ret; exact ⟨by first | rfl | (simp [errW_none, errW_some] <;> rfl) | (simp [*, errW_none, errW_some] <;> rfl), bl⟩
     ·rw [if_neg c6] at H; exact absurd H (by simp)
    ·rw [if_neg c5] at H; exact absurd H (by simp)
   ·rw [if_neg c4] at H; have c4b0 : decide (x10_1 < (l0_2.length : Int)) = false := decide_eq_false c4; clear c4; obtain rfl := Option.some.inj H
    go_wp2
    go_ret; exact ⟨by first | rfl | (simp [errW_none, errW_some] <;> rfl) | (simp [*, errW_none, errW_some] <;> rfl), bl⟩
def data_Check.f (k : Nat) (l0_0 : List S37) (l0_1 : List S40) (l0_2 : List S43) : Option Int :=
 if 10000 < l0_0.length ∨ 10000 < l0_1.length ∨ 10000 < l0_2.length then some 5
 else if (∀ x ∈ l0_0, InI x.f0) ∧ (∀ x ∈ l0_1, InI x.f0) then
  (data_checker_checkNodes.f k l0_0 l0_1 l0_2).bind fun e0 => if e0 = 0 then (data_checker_checkWays.f k l0_0 l0_1 l0_2).bind fun e1 => if e1 = 0 then data_checker_checkRels.f k l0_0 l0_1 l0_2 else some e1 else some e0
 else none
theorem data_Check.mono : ∀ a0 a1 a2 k, LeO (data_Check.f k a0 a1 a2) (data_Check.f (k + 1) a0 a1 a2) := fun a0 a1 a2 k =>
 LeO.ite (LeO.refl _) (LeO.ite (LeO.bind (data_checker_checkNodes.mono a0 a1 a2 k) (fun _ => LeO.ite (LeO.bind (data_checker_checkWays.mono a0 a1 a2 k) (fun _ => LeO.ite (data_checker_checkRels.mono a0 a1 a2 k) (LeO.refl _))) (LeO.refl _))) (LeO.refl _))
def CkInv (w wr : World) (gc M1 M2 : Nat) (d0 d1 d2 : Value) (i0 i1 : List Int) : Prop := Below w.heap.size w wr ∧ wr.heap[w.heap.size]? = some (.cells #[d0, d1, d2] 26 (0, 0)) ∧ wr.heap[gc]? = some (.cells #[d0, d1, d2, .map (some M1), .map (some M2)] 98 (0, 0)) ∧ HasIds wr M1 i0 ∧ HasIds wr M2 i1
theorem CkInv.alloc {w wr : World} {gc M1 M2 : Nat} {d0 d1 d2 : Value} {i0 i1 : List Int} (h : CkInv w wr gc M1 M2 d0 d1 d2 i0 i1) (o : Obj) : CkInv w (wr.alloc o) gc M1 M2 d0 d1 d2 i0 i1 :=
 ⟨bA h.1 o, kA h.2.1 o, kA h.2.2.1 o, h.2.2.2.1.below (bA (Below.refl _ _) _), h.2.2.2.2.below (bA (Below.refl _ _) _)⟩
theorem CkInv.below {w wr w' : World} {gc M1 M2 : Nat} {d0 d1 d2 : Value} {i0 i1 : List Int} (h : CkInv w wr gc M1 M2 d0 d1 d2 i0 i1) (hb : Below wr.heap.size wr w') : CkInv w w' gc M1 M2 d0 d1 d2 i0 i1 :=
 ⟨h.1.trans (hb.mono h.1.size), kB h.2.1 hb, kB h.2.2.1 hb, h.2.2.2.1.below hb, h.2.2.2.2.below hb⟩
theorem CkInv.put1 {w wr w' : World} {gc M1 M2 : Nat} {d0 d1 d2 : Value} {i0 i0' i1 : List Int} (h : CkInv w wr gc M1 M2 d0 d1 d2 i0 i1) (h1 : w.heap.size < M1) (h2 : M1 < M2) (h3 : M2 < gc) (hg : wr.grownBy w' (some M1)) (hi : HasIds w' M1 i0') : CkInv w w' gc M1 M2 d0 d1 d2 i0' i1 :=
 ⟨h.1.grown hg h.1.size (fun k hk => by cases hk; omega), (hg.block _ (blk_lt h.2.1) (by simp; omega)).trans h.2.1, (hg.block _ (blk_lt h.2.2.1) (by simp; omega)).trans h.2.2.1, hi, h.2.2.2.2.grown hg (by simp; omega)⟩
theorem CkInv.put2 {w wr w' : World} {gc M1 M2 : Nat} {d0 d1 d2 : Value} {i0 i1 i1' : List Int} (h : CkInv w wr gc M1 M2 d0 d1 d2 i0 i1) (h1 : w.heap.size < M1) (h2 : M1 < M2) (h3 : M2 < gc) (hg : wr.grownBy w' (some M2)) (hi : HasIds w' M2 i1') : CkInv w w' gc M1 M2 d0 d1 d2 i0 i1' :=
 ⟨h.1.grown hg h.1.size (fun k hk => by cases hk; omega), (hg.block _ (blk_lt h.2.1) (by simp; omega)).trans h.2.1, (hg.block _ (blk_lt h.2.2.1) (by simp; omega)).trans h.2.2.1, h.2.2.2.1.grown hg (by simp; omega), hi⟩
theorem CkInv.start (w : World) (d0 d1 d2 : Value) : CkInv w ((((w.alloc (.cells #[d0, d1, d2] 26)).alloc (.map #[] 0)).alloc (.map #[] 0)).alloc (.cells #[d0, d1, d2, .map (some (w.heap.size + 1)), .map (some (w.heap.size + 1 + 1))] 98)) (w.heap.size + 1 + 1 + 1) (w.heap.size + 1) (w.heap.size + 1 + 1) d0 d1 d2 [] [] := by
 refine ⟨bA (bA (bA (bA (Below.refl _ _) _) _) _) _, kA (kA (kA (blk_new w _) _) _) _, ?_, ?_, ?_⟩
 ·have h := blk_new (((w.alloc (.cells #[d0, d1, d2] 26)).alloc (.map #[] 0)).alloc (.map #[] 0)) (.cells #[d0, d1, d2, .map (some (w.heap.size + 1)), .map (some (w.heap.size + 1 + 1))] 98)
  simpa using h
 ·have h := ((HasIds.made (w.alloc (.cells #[d0, d1, d2] 26))).below (bA (Below.refl _ _) (.map #[] 0))).below (bA (Below.refl _ _) (.cells #[d0, d1, d2, .map (some (w.heap.size + 1)), .map (some (w.heap.size + 1 + 1))] 98))
  simpa using h
 ·have h := (HasIds.made ((w.alloc (.cells #[d0, d1, d2] 26)).alloc (.map #[] 0))).below (bA (Below.refl _ _) (.cells #[d0, d1, d2, .map (some (w.heap.size + 1)), .map (some (w.heap.size + 1 + 1))] 98))
  simpa using h
def ckTail (k : Nat) (l0_0 : List S37) (l0_1 : List S40) (l0_2 : List S43) : Nat → Option Int
 | 0 => (data_checker_checkNodes.f k l0_0 l0_1 l0_2).bind fun e0 => if e0 = 0 then (data_checker_checkWays.f k l0_0 l0_1 l0_2).bind fun e1 => if e1 = 0 then data_checker_checkRels.f k l0_0 l0_1 l0_2 else some e1 else some e0
 | 1 => (data_checker_checkWays.f k l0_0 l0_1 l0_2).bind fun e1 => if e1 = 0 then data_checker_checkRels.f k l0_0 l0_1 l0_2 else some e1
 | 2 => data_checker_checkRels.f k l0_0 l0_1 l0_2
 | _ => some 0
set_option maxHeartbeats 8000000 in
set_option maxRecDepth 100000 in
theorem data_Check.calls (k : Nat) (A0_0 : Option Addr) (c0_0 : Nat) (l0_0 : List S37) (A0_1 : Option Addr) (c0_1 : Nat) (l0_1 : List S40) (A0_2 : Option Addr) (c0_2 : Nat) (l0_2 : List S43) (r : Int) (w : World)
  (hr0_0 : Kd.C k37 w A0_0 l0_0.length l0_0) (hc0_0 : l0_0.length ≤ c0_0) (hr0_1 : Kd.C k40 w A0_1 l0_1.length l0_1) (hc0_1 : l0_1.length ≤ c0_1) (hr0_2 : Kd.C k43 w A0_2 l0_2.length l0_2) (hc0_2 : l0_2.length ≤ c0_2) (h : data_Check.f k l0_0 l0_1 l0_2 = some r) :
  Calls Tryz.prog 29 #[.agg #[.slice A0_0 l0_0.length c0_0, .slice A0_1 l0_1.length c0_1, .slice A0_2 l0_2.length c0_2]] w fun e w' => e = .returned (.int .i64 r) ∧ Below w.heap.size w w' := by
 have hu26 := Tryz.underlying26; have hu98 := Tryz.underlying98; have HR0 := aM hr0_0; have HR1 := aM hr0_1; have HR2 := aM hr0_2; have HC0 := aM hc0_0; have HC1 := aM hc0_1; have HC2 := aM hc0_2; clear hr0_0 hr0_1 hr0_2 hc0_0 hc0_1 hc0_2; have hmm := @run_makeMap Tryz.prog; unfold data_Check.f at h
 by_cases hbig : 10000 < l0_0.length ∨ 10000 < l0_1.length ∨ 10000 < l0_2.length
 ·rw [if_pos hbig] at h; obtain rfl := Option.some.inj h; go_enter Tryz.func29, Tryz.ntmps29
  go_wp2
  all_goals
   go_ret; exact ⟨rfl, bA (Below.refl _ _) _⟩
 ·rw [if_neg hbig] at h
  split at h
  case isFalse => cases h
  rename_i hin
  have HT := aM (show ckTail k l0_0 l0_1 l0_2 0 = some r from h); have HIN := aM hin; have HL := aM (show l0_0.length ≤ 10000 ∧ l0_1.length ≤ 10000 ∧ l0_2.length ≤ 10000 by omega); have hst := CkInv.start w (.slice A0_0 l0_0.length c0_0) (.slice A0_1 l0_1.length c0_1) (.slice A0_2 l0_2.length c0_2); clear h hin; obtain ⟨w4, hw4⟩ : ∃ w4, w4 = (((w.alloc (.cells #[.slice A0_0 l0_0.length c0_0, .slice A0_1 l0_1.length c0_1, .slice A0_2 l0_2.length c0_2] 26)).alloc (.map #[] 0)).alloc (.map #[] 0)).alloc (.cells #[.slice A0_0 l0_0.length c0_0, .slice A0_1 l0_1.length c0_1, .slice A0_2 l0_2.length c0_2, .map (some (w.heap.size + 1)), .map (some (w.heap.size + 1 + 1))] 98) := ⟨_, rfl⟩; rw [← hw4] at hst; have HW4 := aM hw4; have HST := aM hst; clear hw4 hst; go_enter Tryz.func29, Tryz.ntmps29
  go_wp2
  all_goals
   clear hmm; rw [← HW4.out]; clear HW4; have HN := aM (show w.heap.size < w.heap.size + 1 ∧ w.heap.size + 1 < w.heap.size + 1 + 1 ∧ w.heap.size + 1 + 1 < w.heap.size + 1 + 1 + 1 by omega); generalize w.heap.size + 1 + 1 + 1 = gc at HN HST ⊢; generalize w.heap.size + 1 + 1 = M2 at HN HST ⊢; generalize w.heap.size + 1 = M1 at HN HST ⊢
   go_loopg [29] l0_0.length (fun gg v29 wr => ∃ i : Nat, i ≤ l0_0.length ∧ l0_0.length - i ≤ gg ∧ v29 = .int .i64 i ∧ Aside0 (CkInv w wr gc M1 M2 (.slice A0_0 l0_0.length c0_0) (.slice A0_1 l0_1.length c0_1) (.slice A0_2 l0_2.length c0_2) ((l0_0.take i).map (fun x => x.f0)) []))
   case atStart => exact ⟨0, by omega, by omega, rfl, HST⟩
   case round =>
    clear HST; obtain ⟨i, hi, hg, rfl, IV⟩ := hrel
    by_cases hlt : i < l0_0.length
    ·have hltI : (i : Int) < (l0_0.length : Int) := by omega
     obtain ⟨ad, A3, c3, e0, hx0, hx1, hx2, hx3, hl3, hi3⟩ := at_T37 (Kd.C_below HR0.out IV.out.1) (i : Int) (by omega) hltI; cases e0
     have hy : rd_T37 l0_0 (i : Int) = l0_0[i] := by unfold rd_T37; rw [Int.toNat_natCast, List.getD_eq_getElem?_getD, List.getElem?_eq_getElem hlt]; rfl
     rw [hy] at hx0 hx1 hx2 hx3; rw [Int.toNat_natCast] at hx0 hx1 hx2 hx3; have hII := HIN.out.1 _ (List.getElem_mem hlt); have TK := aM (show (l0_0.take (i + 1)).map (fun x => x.f0) = (l0_0.take i).map (fun x => x.f0) ++ [l0_0[i].f0] by rw [List.take_succ_eq_append_getElem hlt, List.map_append]; rfl); clear hl3 hi3 hy; generalize l0_0[i] = x at hx0 hx1 hx2 hx3 hII TK; have IVx := IV.out.alloc (.cells #[.int .i64 x.f0, .int .i64 x.f1.f0, .int .i64 x.f1.f1, .slice A3 x.f2.length c3] 37); obtain ⟨w', hrun, hids, hgr⟩ := IVx.2.2.2.1.put hII (by unfold maxLen; rw [List.length_map, List.length_take]; omega); have IV' := aM (IVx.put1 HN.out.1 HN.out.2.1 HN.out.2.2 hgr hids); have hc3 : (wr.alloc (.cells #[.int .i64 x.f0, .int .i64 x.f1.f0, .int .i64 x.f1.f1, .slice A3 x.f2.length c3] 37)).cell? ⟨gc, 3, none⟩ = some (.map (some M1)) := (kC IVx.2.2.1 3).trans rfl; have hf3 := kF IVx.2.2.1 3; clear IVx hids hgr hII
     go_wp2
     go_roundg (l0_0.length - (i + 1))
     case measure => omega
     case rel => exact ⟨i + 1, by omega, by omega, by go_num, ⟨by rw [TK.out]; exact IV'.out⟩⟩
    ·have : i = l0_0.length := by omega
     subst this; have IV2 := aM (show CkInv w wr gc M1 M2 (.slice A0_0 l0_0.length c0_0) (.slice A0_1 l0_1.length c0_1) (.slice A0_2 l0_2.length c0_2) (l0_0.map (fun x => x.f0)) [] by have := IV.out; rwa [List.take_length] at this); have hd1 : wr.cell? ⟨w.heap.size, 1, none⟩ = some (.slice A0_1 l0_1.length c0_1) := (kC IV2.out.2.1 1).trans rfl; clear IV
     go_wp2
     clear hd1
     go_loopg [41] l0_1.length (fun gg v41 wr => ∃ i : Nat, i ≤ l0_1.length ∧ l0_1.length - i ≤ gg ∧ v41 = .int .i64 i ∧ Aside0 (CkInv w wr gc M1 M2 (.slice A0_0 l0_0.length c0_0) (.slice A0_1 l0_1.length c0_1) (.slice A0_2 l0_2.length c0_2) (l0_0.map (fun x => x.f0)) ((l0_1.take i).map (fun x => x.f0))))
     case atStart => exact ⟨0, by omega, by omega, rfl, IV2⟩
     case round =>
      clear IV2; obtain ⟨i, hi, hg, rfl, IV⟩ := hrel
      by_cases hlt : i < l0_1.length
      ·have hltI : (i : Int) < (l0_1.length : Int) := by omega
       obtain ⟨ad, A1, c1, A2, c2, e0, hx0, hx1, hx2, hl1, hi1, hl2, hi2⟩ := at_T40 (Kd.C_below HR1.out IV.out.1) (i : Int) (by omega) hltI; cases e0
       have hy : rd_T40 l0_1 (i : Int) = l0_1[i] := by unfold rd_T40; rw [Int.toNat_natCast, List.getD_eq_getElem?_getD, List.getElem?_eq_getElem hlt]; rfl
       rw [hy] at hx0 hx1 hx2; rw [Int.toNat_natCast] at hx0 hx1 hx2; have hII := HIN.out.2 _ (List.getElem_mem hlt); have TK := aM (show (l0_1.take (i + 1)).map (fun x => x.f0) = (l0_1.take i).map (fun x => x.f0) ++ [l0_1[i].f0] by rw [List.take_succ_eq_append_getElem hlt, List.map_append]; rfl); clear hl1 hi1 hl2 hi2 hy; generalize l0_1[i] = x at hx0 hx1 hx2 hII TK; have IVx := IV.out.alloc (.cells #[.int .i64 x.f0, .slice A1 x.f1.length c1, .slice A2 x.f2.length c2] 40); obtain ⟨w', hrun, hids, hgr⟩ := IVx.2.2.2.2.put hII (by unfold maxLen; rw [List.length_map, List.length_take]; omega); have IV' := aM (IVx.put2 HN.out.1 HN.out.2.1 HN.out.2.2 hgr hids); have hc4 : (wr.alloc (.cells #[.int .i64 x.f0, .slice A1 x.f1.length c1, .slice A2 x.f2.length c2] 40)).cell? ⟨gc, 4, none⟩ = some (.map (some M2)) := (kC IVx.2.2.1 4).trans rfl; have hf4 := kF IVx.2.2.1 4; clear IVx hids hgr hII
       go_wp2
       go_roundg (l0_1.length - (i + 1))
       case measure => omega
       case rel => exact ⟨i + 1, by omega, by omega, by go_num, ⟨by rw [TK.out]; exact IV'.out⟩⟩
      ·have : i = l0_1.length := by omega
       subst this; have IV3 := aM (show CkInv w wr gc M1 M2 (.slice A0_0 l0_0.length c0_0) (.slice A0_1 l0_1.length c0_1) (.slice A0_2 l0_2.length c0_2) (l0_0.map (fun x => x.f0)) (l0_1.map (fun x => x.f0)) by have := IV.out; rwa [List.take_length] at this); clear IV; have BF0 := aM (blk_new wr (.cells #[.func (.func 50) #[] #[], .func (.func 51) #[] #[], .func (.func 52) #[] #[]] 99)); have IVf := aM (IV3.out.alloc (.cells #[.func (.func 50) #[] #[], .func (.func 51) #[] #[], .func (.func 52) #[] #[]] 99)); have eg50 : ∀ args w, (callFunc 50 args).run Tryz.prog w = .ok (.enter 50 args) w := enters_of Tryz.func50 (by kernel_rfl) rfl; have eg51 : ∀ args w, (callFunc 51 args).run Tryz.prog w = .ok (.enter 51 args) w := enters_of Tryz.func51 (by kernel_rfl) rfl; have eg52 : ∀ args w, (callFunc 52 args).run Tryz.prog w = .ok (.enter 52 args) w := enters_of Tryz.func52 (by kernel_rfl) rfl; clear IV3
       go_wp2
       generalize wr.alloc (.cells #[.func (.func 50) #[] #[], .func (.func 51) #[] #[], .func (.func 52) #[] #[]] 99) = wf at IVf BF0 ⊢; generalize wr.heap.size = gf at BF0 ⊢
       go_loopg [52] 3 (fun gg v52 wr => ∃ i : Nat, i ≤ 3 ∧ 3 - i ≤ gg ∧ v52 = .int .i64 i ∧ Aside0 (CkInv w wr gc M1 M2 (.slice A0_0 l0_0.length c0_0) (.slice A0_1 l0_1.length c0_1) (.slice A0_2 l0_2.length c0_2) (l0_0.map (fun x => x.f0)) (l0_1.map (fun x => x.f0))) ∧ Aside0 (wr.heap[gf]? = some (.cells #[.func (.func 50) #[] #[], .func (.func 51) #[] #[], .func (.func 52) #[] #[]] 99)) ∧ Aside0 (ckTail k l0_0 l0_1 l0_2 i = some r))
       case atStart => exact ⟨0, by omega, by omega, rfl, IVf, BF0, HT⟩
       case round =>
        clear IVf BF0 HT; obtain ⟨i, hi, hg, rfl, IV, BF, TT⟩ := hrel; have hh : i = 0 ∨ i = 1 ∨ i = 2 ∨ i = 3 := by omega
        rcases hh with rfl | rfl | rfl | rfl
        ·have T := TT.out; obtain ⟨e0, he0, hT⟩ := Option.bind_eq_some_iff.mp T; have HCALL := aM (data_checker_checkNodes.calls k M1 M2 A0_0 c0_0 l0_0 A0_1 c0_1 l0_1 A0_2 c0_2 l0_2 e0 wr (Kd.C_below HR0.out IV.out.1) HC0.out (Kd.C_below HR1.out IV.out.1) HC1.out (Kd.C_below HR2.out IV.out.1) HC2.out IV.out.2.2.2.1 IV.out.2.2.2.2 he0); have hcf : wr.cell? ⟨gf, 0, none⟩ = some (.func (.func 50) #[] #[]) := (kC BF.out 0).trans rfl; have hff := kF BF.out 0; have hc0 : wr.cell? ⟨gc, 0, none⟩ = some (.slice A0_0 l0_0.length c0_0) := (kC IV.out.2.2.1 0).trans rfl; have hc1 : wr.cell? ⟨gc, 1, none⟩ = some (.slice A0_1 l0_1.length c0_1) := (kC IV.out.2.2.1 1).trans rfl; have hc2 : wr.cell? ⟨gc, 2, none⟩ = some (.slice A0_2 l0_2.length c0_2) := (kC IV.out.2.2.1 2).trans rfl; have hc3 : wr.cell? ⟨gc, 3, none⟩ = some (.map (some M1)) := (kC IV.out.2.2.1 3).trans rfl; have hc4 : wr.cell? ⟨gc, 4, none⟩ = some (.map (some M2)) := (kC IV.out.2.2.1 4).trans rfl; have hf0 := kF IV.out.2.2.1 0; have hf1 := kF IV.out.2.2.1 1; have hf2 := kF IV.out.2.2.1 2; have hf3 := kF IV.out.2.2.1 3; have hf4 := kF IV.out.2.2.1 4; have HT0 := aM hT; clear T he0 hT
         by_cases ez : e0 = 0
         ·have ez1 : (e0 == 0) = true := beq_iff_eq.mpr ez; have ez2 : (e0 != 0) = false := bne_eq_false_iff_eq.mpr ez; have EZ := aM ez; clear ez
          go_wp2_with (first | (go_at_fn 50; refine HCALL.out.mono ?_; rintro e w' ⟨rfl, hb'⟩; have IVn := aM (IV.out.below hb'); have BFn := aM (kB BF.out hb'); clear hb') | go_in)
          go_roundg 2
          case measure => omega
          case rel => exact ⟨1, by omega, by omega, by go_num, IVn, BFn, ⟨by have := HT0.out; rw [if_pos EZ.out] at this; exact this⟩⟩
         ·have ez1 : (e0 == 0) = false := beq_eq_false_iff_ne.mpr ez; have ez2 : (e0 != 0) = true := bne_iff_ne.mpr ez; have EZ := aM ez; clear ez
          go_wp2_with (first | (go_at_fn 50; refine HCALL.out.mono ?_; rintro e w' ⟨rfl, hb'⟩; have IVn := aM (IV.out.below hb'); clear hb') | go_in)
          go_ret; exact ⟨by have := HT0.out; rw [if_neg EZ.out] at this; rw [← Option.some.inj this]; rfl, IVn.out.1⟩
        ·have T := TT.out; obtain ⟨e0, he0, hT⟩ := Option.bind_eq_some_iff.mp T; have HCALL := aM (data_checker_checkWays.calls k M1 M2 A0_0 c0_0 l0_0 A0_1 c0_1 l0_1 A0_2 c0_2 l0_2 e0 wr (Kd.C_below HR0.out IV.out.1) HC0.out (Kd.C_below HR1.out IV.out.1) HC1.out (Kd.C_below HR2.out IV.out.1) HC2.out IV.out.2.2.2.1 IV.out.2.2.2.2 he0); have hcf : wr.cell? ⟨gf, 1, none⟩ = some (.func (.func 51) #[] #[]) := (kC BF.out 1).trans rfl; have hff := kF BF.out 1; have hc0 : wr.cell? ⟨gc, 0, none⟩ = some (.slice A0_0 l0_0.length c0_0) := (kC IV.out.2.2.1 0).trans rfl; have hc1 : wr.cell? ⟨gc, 1, none⟩ = some (.slice A0_1 l0_1.length c0_1) := (kC IV.out.2.2.1 1).trans rfl; have hc2 : wr.cell? ⟨gc, 2, none⟩ = some (.slice A0_2 l0_2.length c0_2) := (kC IV.out.2.2.1 2).trans rfl; have hc3 : wr.cell? ⟨gc, 3, none⟩ = some (.map (some M1)) := (kC IV.out.2.2.1 3).trans rfl; have hc4 : wr.cell? ⟨gc, 4, none⟩ = some (.map (some M2)) := (kC IV.out.2.2.1 4).trans rfl; have hf0 := kF IV.out.2.2.1 0; have hf1 := kF IV.out.2.2.1 1; have hf2 := kF IV.out.2.2.1 2; have hf3 := kF IV.out.2.2.1 3; have hf4 := kF IV.out.2.2.1 4; have HT0 := aM hT; clear T he0 hT
         by_cases ez : e0 = 0
         ·have ez1 : (e0 == 0) = true := beq_iff_eq.mpr ez; have ez2 : (e0 != 0) = false := bne_eq_false_iff_eq.mpr ez; have EZ := aM ez; clear ez
          go_wp2_with (first | (go_at_fn 51; refine HCALL.out.mono ?_; rintro e w' ⟨rfl, hb'⟩; have IVn := aM (IV.out.below hb'); have BFn := aM (kB BF.out hb'); clear hb') | go_in)
          go_roundg 1
          case measure => omega
          case rel => exact ⟨2, by omega, by omega, by go_num, IVn, BFn, ⟨by have := HT0.out; rw [if_pos EZ.out] at this; exact this⟩⟩
         ·have ez1 : (e0 == 0) = false := beq_eq_false_iff_ne.mpr ez; have ez2 : (e0 != 0) = true := bne_iff_ne.mpr ez; have EZ := aM ez; clear ez
          go_wp2_with (first | (go_at_fn 51; refine HCALL.out.mono ?_; rintro e w' ⟨rfl, hb'⟩; have IVn := aM (IV.out.below hb'); clear hb') | go_in)
          go_ret; exact ⟨by have := HT0.out; rw [if_neg EZ.out] at this; rw [← Option.some.inj this]; rfl, IVn.out.1⟩
        ·have T := TT.out; obtain ⟨e0, he0⟩ : ∃ e0, e0 = r := ⟨_, rfl⟩; have hT : e0 = r := he0; replace he0 : data_checker_checkRels.f k l0_0 l0_1 l0_2 = some e0 := by rw [hT]; exact T
         have HCALL := aM (data_checker_checkRels.calls k M1 M2 A0_0 c0_0 l0_0 A0_1 c0_1 l0_1 A0_2 c0_2 l0_2 e0 wr (Kd.C_below HR0.out IV.out.1) HC0.out (Kd.C_below HR1.out IV.out.1) HC1.out (Kd.C_below HR2.out IV.out.1) HC2.out IV.out.2.2.2.1 IV.out.2.2.2.2 he0); have hcf : wr.cell? ⟨gf, 2, none⟩ = some (.func (.func 52) #[] #[]) := (kC BF.out 2).trans rfl; have hff := kF BF.out 2; have hc0 : wr.cell? ⟨gc, 0, none⟩ = some (.slice A0_0 l0_0.length c0_0) := (kC IV.out.2.2.1 0).trans rfl; have hc1 : wr.cell? ⟨gc, 1, none⟩ = some (.slice A0_1 l0_1.length c0_1) := (kC IV.out.2.2.1 1).trans rfl; have hc2 : wr.cell? ⟨gc, 2, none⟩ = some (.slice A0_2 l0_2.length c0_2) := (kC IV.out.2.2.1 2).trans rfl; have hc3 : wr.cell? ⟨gc, 3, none⟩ = some (.map (some M1)) := (kC IV.out.2.2.1 3).trans rfl; have hc4 : wr.cell? ⟨gc, 4, none⟩ = some (.map (some M2)) := (kC IV.out.2.2.1 4).trans rfl; have hf0 := kF IV.out.2.2.1 0; have hf1 := kF IV.out.2.2.1 1; have hf2 := kF IV.out.2.2.1 2; have hf3 := kF IV.out.2.2.1 3; have hf4 := kF IV.out.2.2.1 4; have HT0 := aM hT; clear T he0 hT
         by_cases ez : e0 = 0
         ·have ez1 : (e0 == 0) = true := beq_iff_eq.mpr ez; have ez2 : (e0 != 0) = false := bne_eq_false_iff_eq.mpr ez; have EZ := aM ez; clear ez
          go_wp2_with (first | (go_at_fn 52; refine HCALL.out.mono ?_; rintro e w' ⟨rfl, hb'⟩; have IVn := aM (IV.out.below hb'); have BFn := aM (kB BF.out hb'); clear hb') | go_in)
          go_roundg 0
          case measure => omega
          case rel => exact ⟨3, by omega, by omega, by go_num, IVn, BFn, ⟨by have := HT0.out; show some 0 = some r; rw [← this, EZ.out]⟩⟩
         ·have ez1 : (e0 == 0) = false := beq_eq_false_iff_ne.mpr ez; have ez2 : (e0 != 0) = true := bne_iff_ne.mpr ez; have EZ := aM ez; clear ez
          go_wp2_with (first | (go_at_fn 52; refine HCALL.out.mono ?_; rintro e w' ⟨rfl, hb'⟩; have IVn := aM (IV.out.below hb'); clear hb') | go_in)
          go_ret; exact ⟨by rw [← HT0.out]; rfl, IVn.out.1⟩
        ·have T := TT.out; have HR := aM (Option.some.inj (show some 0 = some r from T)); clear T
         go_wp2
         go_ret; exact ⟨by rw [← HR.out]; rfl, IV.out.1⟩
end Go.Proofs.YtijoaohckgbneaaGreat.PAll
