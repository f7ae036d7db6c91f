-- out of a driver of this session's prover over the kit's print: Lean checks it
import Derived.Test.YtijoaohckgbneaaGreatPAllx0
namespace Go.Proofs.YtijoaohckgbneaaGreat.PAll
open Go.Proofs.YtijoaohckgbneaaGreatG Go.Shelf Go.Lib
open Go.RowKit Go.Proofs.YtijoaohckgbneaaGreatW.PrintWords Go.Proofs.YtijoaohckgbneaaGreatW.PrintLast Go.Proofs.YtijoaohckgbneaaGreatW.PrintMore
attribute [local go_sem] max2_int min2_int max_two min_two max_three min_three max_four min_four   -- for this text's walks alone
set_option linter.unusedVariables false
set_option linter.unusedSimpArgs false
def mapmakerref14_Node.l0 : Nat → Int → Int → List (S37) → List (S40) → List (S43) → Option (Int × Int × Int × (List (S129)) × Bool)
 | 0, _, _, _, _, _ => none
 | k + 1, x1, x6, x172000, x172001, x172002 => if x6 < (x172000.length : Int) then (if 0 ≤ x6 then (if ((rd_T37 x172000 x6).f0) = x1 then (some ((rd_T37 x172000 x6).f0, (rd_T37 x172000 x6).f1.f0, (rd_T37 x172000 x6).f1.f1, (rd_T37 x172000 x6).f2, true)) else (mapmakerref14_Node.l0 k x1 (wrap64 (x6 + 1)) x172000 x172001 x172002)) else (none)) else (some (0, 0, 0, ([] : List (S129)), false))
def mapmakerref14_Node.f (k : Nat) (l0_0 : List (S37)) (l0_1 : List (S40)) (l0_2 : List (S43)) (a1 : Int) : Option (Int × Int × Int × (List (S129)) × Bool) := mapmakerref14_Node.l0 k a1 0 l0_0 l0_1 l0_2
theorem mapmakerref14_Node.mono_l : ∀ k, (∀ y0 y1 y2 y3 y4, LeO (mapmakerref14_Node.l0 k y0 y1 y2 y3 y4) (mapmakerref14_Node.l0 (k + 1) y0 y1 y2 y3 y4))
 | 0 => fun _ _ _ _ _ r h => by simp [mapmakerref14_Node.l0] at h
 | k + 1 => by
  have ih0 := mapmakerref14_Node.mono_l k
  ·intro y0 y1 y2 y3 y4
   unfold mapmakerref14_Node.l0
   repeat' first
   | (with_reducible exact ih0 _ _ _ _ _)
   | (with_reducible exact LeO.refl _)
   | (with_reducible exact LeO.none _)
   | (with_reducible refine LeO.ite ?_ ?_)
   | (with_reducible refine LeO.bind ?_ (fun _ => ?_))
   | exact ih0 _ _ _ _ _
   | exact LeO.none _
   | refine LeO.ite ?_ ?_
   | refine LeO.bind ?_ (fun _ => ?_)
theorem mapmakerref14_Node.mono : ∀ a0 a1 a2 a3 k, LeO (mapmakerref14_Node.f k a0 a1 a2 a3) (mapmakerref14_Node.f (k + 1) a0 a1 a2 a3) := by
 intro a0 a1 a2 a3 k; have ih0 := mapmakerref14_Node.mono_l k; unfold mapmakerref14_Node.f
 repeat' first
   | (with_reducible exact ih0 _ _ _ _ _)
   | (with_reducible exact LeO.refl _)
   | (with_reducible exact LeO.none _)
   | (with_reducible refine LeO.ite ?_ ?_)
   | (with_reducible refine LeO.bind ?_ (fun _ => ?_))
   | exact ih0 _ _ _ _ _
   | exact LeO.none _
   | refine LeO.ite ?_ ?_
   | refine LeO.bind ?_ (fun _ => ?_)
set_option maxHeartbeats 8000000 in
set_option maxRecDepth 100000 in
theorem mapmakerref14_Node.calls (k : Nat) (P0_0_ : Nat → Prop) (A0_0 : Option Addr) (c0_0 : Nat) (l0_0 : List (S37)) (A0_1 : Option Addr) (c0_1 : Nat) (l0_1 : List (S40)) (A0_2 : Option Addr) (c0_2 : Nat) (l0_2 : List (S43)) (a1 : Int) (r1 : Int) (r2 : Int) (r3 : Int) (r4 : List (S129)) (r5 : Bool) (w : World) (hs0_0 : Kd.V k37 37 w w.heap.size (fun k_ => P0_0_ k_) (.slice A0_0 l0_0.length c0_0) l0_0) (hr0_1 : Kd.C k40 w A0_1 l0_1.length l0_1) (hc0_1 : l0_1.length ≤ c0_1) (hr0_2 : Kd.C k43 w A0_2 l0_2.length l0_2) (hc0_2 : l0_2.length ≤ c0_2) (h : mapmakerref14_Node.f k l0_0 l0_1 l0_2 a1 = some (r1, r2, r3, r4, r5)) :
  Calls Tryz.prog 45 #[.agg #[.slice A0_0 l0_0.length c0_0, .slice A0_1 l0_1.length c0_1, .slice A0_2 l0_2.length c0_2], .int .i64 a1] w fun e w' => ∃ v3_ : Value, e = .returned (.tuple #[.agg #[.int .i64 r1, .int .i64 r2, .int .i64 r3, v3_], .bool r5]) ∧ Kd.V k129 129 w' w.heap.size (fun k_ => (P0_0_ k_ ∨ w.heap.size ≤ k_)) v3_ r4 ∧ Below w.heap.size w w' := by
 have hu26 := Tryz.underlying26; have hu37 := Tryz.underlying37; have HO0_0 := aM (show Kd.V k37 37 w w.heap.size (fun k_ => (P0_0_ k_ ∨ w.heap.size ≤ k_)) (.slice A0_0 l0_0.length c0_0) l0_0 from Kd.V_mono hs0_0 (fun k_ hk => .inl hk)); have HR0_1 := aM hr0_1; have HC0_1 := aM hc0_1; clear hr0_1 hc0_1; have HR0_2 := aM hr0_2; have HC0_2 := aM hc0_2; clear hr0_2 hc0_2; have HB := aM (Below.refl w.heap.size w); have H : (mapmakerref14_Node.l0 k a1 0 l0_0 l0_1 l0_2) = some (r1, r2, r3, r4, r5) := h; clear h; have H' := aM H; clear H; go_enter Tryz.func45, Tryz.ntmps45
 go_wp2_with (first | ((with_reducible refine gate_dst (N := 2) rfl ?_); refine bx (N := 2) (cs := #[.slice A0_0 l0_0.length c0_0, .slice A0_1 l0_1.length c0_1, .slice A0_2 l0_2.length c0_2]) (t := 26) ?_; intro gb171 hg w3 hbox hb; have BK171 := aM (hbox); have GE171 := aM (gw (w := w) hg); replace HO0_0 := aM (Kd.V_below (Kd.V_elderB (by (with_reducible repeat (first | apply Kd.V_alloc | apply Kd.V_drewN | apply Kd.V_drew)); exact HO0_0.out) gb171 (Nat.le_of_eq hg.symm)) hb); replace HB := aM (bS (bl) hb); clear hb hbox hg) | ((with_reducible refine gate_dst (N := 4) rfl ?_); refine bx (N := 4) (cs := #[.int .i64 0, .int .i64 0, .int .i64 0, .slice none 0 0]) (t := 37) ?_; intro gb172 hg w4 hbox hb; have BK172 := aM (hbox); have GE172 := aM (gw (w := w) hg); obtain ⟨NB171_172, NB172_171⟩ := n2 BK171 hg; replace HO0_0 := aM (Kd.V_below (Kd.V_elderB (by (with_reducible repeat (first | apply Kd.V_alloc | apply Kd.V_drewN | apply Kd.V_drew)); exact HO0_0.out) gb172 (Nat.le_of_eq hg.symm)) hb); replace BK171 := aM (kB (kl BK171) hb); replace HB := aM (bS (bl) hb); clear hb hbox hg))
 go_loopg [6] k (fun kq v6 w' => ∃ (x6_1 : Int) (x173000_1 : Int) (x173001_1 : Int) (x173002_1 : Int), v6 = .int .i64 x6_1 ∧ Aside0 (mapmakerref14_Node.l0 kq a1 x6_1 l0_0 l0_1 l0_2 = some (r1, r2, r3, r4, r5)) ∧ Aside0 (kq ≤ k) ∧ Aside0 (Kd.V k37 37 w' w.heap.size (fun k_ => (P0_0_ k_ ∨ w.heap.size ≤ k_) ∧ k_ ≠ gb171 ∧ k_ ≠ gb172) (.slice A0_0 l0_0.length c0_0) l0_0) ∧ Aside0 (w'.heap[gb171]? = some (.cells #[(.slice A0_0 l0_0.length c0_0), (.slice A0_1 l0_1.length c0_1), (.slice A0_2 l0_2.length c0_2)] 26 (0, 0))) ∧ Aside0 (w'.heap[gb172]? = some (.cells #[.int .i64 x173000_1, .int .i64 x173001_1, .int .i64 x173002_1, (.slice none 0 0)] 37 (0, 0))) ∧ Aside0 (Below w.heap.size w w'))
 case atStart => exact ⟨(0), (0), (0), (0), (by first | rfl | (simp; done) | (simp [*]; done)), H', ⟨Nat.le_refl _⟩, ⟨by (with_reducible repeat (first | apply Kd.V_alloc | apply Kd.V_drewN | apply Kd.V_drew)); exact Kd.V_mono HO0_0.out (fun _ hk => ⟨hk.1.1, ⟨hk.1.2, hk.2⟩⟩)⟩, ⟨kl BK171⟩, ⟨kl BK172⟩, ⟨bl⟩⟩
 case round =>
  clear H'; obtain ⟨x6_1, x173000_1, x173001_1, x173002_1, rfl, HA, HK1, HO_172000, BK171, BK172, HB⟩ := hrel
  cases gk with
  | zero => exact absurd HA.out (by simp [mapmakerref14_Node.l0])
  | succ k1 =>
   have H := HA.out; clear HA; simp only [mapmakerref14_Node.l0] at H
   by_cases c5 : x6_1 < (l0_0.length : Int)
   ·rw [if_pos c5] at H; have c5b0 : decide (x6_1 < (l0_0.length : Int)) = true := decide_eq_true c5; clear c5
    by_cases c6 : 0 ≤ x6_1
    ·rw [if_pos c6] at H; have c6b0 : decide (0 ≤ x6_1) = true := decide_eq_true c6; clear c6
     by_cases c7 : ((rd_T37 l0_0 x6_1).f0) = a1
     ·rw [if_pos c7] at H; have c7b0 : (((rd_T37 l0_0 x6_1).f0) == a1) = true := beq_iff_eq.mpr c7; have c7b1 : (((rd_T37 l0_0 x6_1).f0) != a1) = false := bne_eq_false_iff_eq.mpr c7; clear c7; simp only [Option.some.injEq, Prod.mk.injEq] at H; obtain ⟨rfl, rfl, rfl, rfl, rfl⟩ := H; have hn8 := nn NB171_172; have hz9 := bc3 BK171; have p173 : 0 ≤ (x6_1 : Int) := oT; have q173 : x6_1 < (l0_0.length : Int) := oT; obtain ⟨ad173, A173_3, c173_3, e173, hx173_0, hx173_1, hx173_2, hx173_3, hl173_3, hi173_3⟩ := at_T37 (Kd.V_reads' HO_172000.out).2.2 x6_1 p173 q173; cases e173
      obtain ⟨ce173, hce173, hMe173, hcc173⟩ := Kd.V_get HO_172000.out z37 x6_1 p173 (by first | exact q173 | exact of_decide_eq_true (by first | (with_reducible assumption) | assumption) | (have e_ := (Kd.V_reads' HO_172000.out).1; omega)); obtain ⟨ua173_3, uc173_3, rfl, ul173_3, ge173_3⟩ := k37_openF hMe173; have hv173_3 := hcc173 3 _ rfl; rw [add_field _ _ 3 (by omega)] at hv173_3; replace hv173_3 := Option.some.inj (hv173_3.symm.trans hx173_3); injection hv173_3 with hva_ hvn_ hvc_
      rw [hva_] at ge173_3; rw [hvc_] at ul173_3; have HL173_3 := aM (show Kd.V k129 129 _ w.heap.size _ _ ((rd_T37 l0_0 x6_1).f2) from Kd.V_mk ul173_3 ge173_3); clear hva_ hvn_ hvc_ ge173_3 ul173_3 hcc173 hce173; have HR173_3 := aM hi173_3; have HC173_3 := aM hl173_3; clear hi173_3 hl173_3; replace p173 := eq_true p173; replace q173 := eq_true q173; have p174 : 0 ≤ (x6_1 : Int) := oT; have q174 : x6_1 < (l0_0.length : Int) := oT; obtain ⟨ad174, A174_3, c174_3, e174, hx174_0, hx174_1, hx174_2, hx174_3, hl174_3, hi174_3⟩ := at_T37 (Kd.V_reads' HO_172000.out).2.2 x6_1 p174 q174; obtain rfl : ad173 = ad174 := (by injection e174); obtain ⟨ce174, hce174, hMe174, hcc174⟩ := Kd.V_get HO_172000.out z37 x6_1 p174 (by first | exact q174 | exact of_decide_eq_true (by first | (with_reducible assumption) | assumption) | (have e_ := (Kd.V_reads' HO_172000.out).1; omega)); obtain ⟨ua174_3, uc174_3, rfl, ul174_3, ge174_3⟩ := k37_openF hMe174; have hv174_3 := hcc174 3 _ rfl; rw [add_field _ _ 3 (by omega)] at hv174_3; replace hv174_3 := Option.some.inj (hv174_3.symm.trans hx174_3); injection hv174_3 with hva_ hvn_ hvc_
      rw [hva_] at ge174_3; rw [hvc_] at ul174_3; have HL174_3 := aM (show Kd.V k129 129 _ w.heap.size _ _ ((rd_T37 l0_0 x6_1).f2) from Kd.V_mk ul174_3 ge174_3); clear hva_ hvn_ hvc_ ge174_3 ul174_3 hcc174 hce174; have HR174_3 := aM hi174_3; have HC174_3 := aM hl174_3; clear hi174_3 hl174_3; replace p174 := eq_true p174; replace q174 := eq_true q174; have ea_ := Option.some.inj (hx173_3.symm.trans hx174_3); injection ea_ with ea_ en_ ec_
      subst ea_; subst ec_; clear en_; have hz10 := bc4 BK172
      go_wp2
      refine bodyPost_ret (results_ct rfl _ _ gb172 37 #[.int .i64 ((rd_T37 l0_0 x6_1).f0), .int .i64 ((rd_T37 l0_0 x6_1).f1.f0), .int .i64 ((rd_T37 l0_0 x6_1).f1.f1), .slice A173_3 ((rd_T37 l0_0 x6_1).f2).length c173_3] (0, 0) _ rfl (bk BK172) Tryz.underlying37 rfl (by kernel_rfl)) rfl ?_; exact ⟨_, by first | rfl | (simp [errW_none, errW_some] <;> rfl) | (simp [*, errW_none, errW_some] <;> rfl), by (with_reducible repeat (first | apply Kd.V_alloc | apply Kd.V_drewN | apply Kd.V_drew)); exact Kd.V_mono (Kd.V_far (p := ⟨gb172, 3, none⟩) (Kd.V_far (p := ⟨gb172, 2, none⟩) (Kd.V_far (p := ⟨gb172, 1, none⟩) (Kd.V_far (p := ⟨gb172, 0, none⟩) (Kd.V_mono HL174_3.out (fun k_ hk => (⟨hk, hk.2.2⟩ : _ ∧ k_ ≠ gb172))) (fun _ hk => hk.2) (.int .i64 ((rd_T37 l0_0 x6_1).f0))) (fun _ hk => hk.2) (.int .i64 ((rd_T37 l0_0 x6_1).f1.f0))) (fun _ hk => hk.2) (.int .i64 ((rd_T37 l0_0 x6_1).f1.f1))) (fun _ hk => hk.2) (.slice A173_3 ((rd_T37 l0_0 x6_1).f2).length c173_3)) (fun _ hk => hk.1.1), bl⟩
     ·rw [if_neg c7] at H; have c7b0 : (((rd_T37 l0_0 x6_1).f0) == a1) = false := beq_eq_false_iff_ne.mpr c7; have c7b1 : (((rd_T37 l0_0 x6_1).f0) != a1) = true := bne_iff_ne.mpr c7; have H' := aM H; clear H; have hn11 := nn NB171_172; have hz12 := bc3 BK171; have p173 : 0 ≤ (x6_1 : Int) := oT; have q173 : x6_1 < (l0_0.length : Int) := oT; obtain ⟨ad173, A173_3, c173_3, e173, hx173_0, hx173_1, hx173_2, hx173_3, hl173_3, hi173_3⟩ := at_T37 (Kd.V_reads' HO_172000.out).2.2 x6_1 p173 q173; cases e173
      obtain ⟨ce173, hce173, hMe173, hcc173⟩ := Kd.V_get HO_172000.out z37 x6_1 p173 (by first | exact q173 | exact of_decide_eq_true (by first | (with_reducible assumption) | assumption) | (have e_ := (Kd.V_reads' HO_172000.out).1; omega)); obtain ⟨ua173_3, uc173_3, rfl, ul173_3, ge173_3⟩ := k37_openF hMe173; have hv173_3 := hcc173 3 _ rfl; rw [add_field _ _ 3 (by omega)] at hv173_3; replace hv173_3 := Option.some.inj (hv173_3.symm.trans hx173_3); injection hv173_3 with hva_ hvn_ hvc_
      rw [hva_] at ge173_3; rw [hvc_] at ul173_3; have HL173_3 := aM (show Kd.V k129 129 _ w.heap.size _ _ ((rd_T37 l0_0 x6_1).f2) from Kd.V_mk ul173_3 ge173_3); clear hva_ hvn_ hvc_ ge173_3 ul173_3 hcc173 hce173; have HR173_3 := aM hi173_3; have HC173_3 := aM hl173_3; clear hi173_3 hl173_3; replace p173 := eq_true p173; replace q173 := eq_true q173
      go_wp2
      go_roundg k1
      case measure => have := HK1.out; omega
      case rel => exact ⟨(wrap64 (x6_1 + 1)), (x173000_1), (x173001_1), (x173002_1), (by first | rfl | (simp; done) | (simp [*]; done)), H', ⟨by have := HK1.out; omega⟩, ⟨by (with_reducible repeat (first | apply Kd.V_alloc | apply Kd.V_drewN | apply Kd.V_drew)); exact HO_172000.out⟩, ⟨kl BK171⟩, ⟨kl BK172⟩, ⟨bl⟩⟩
    ·rw [if_neg c6] at H; exact absurd H (by simp)
   ·rw [if_neg c5] at H; have c5b0 : decide (x6_1 < (l0_0.length : Int)) = false := decide_eq_false c5; clear c5; simp only [Option.some.injEq, Prod.mk.injEq] at H; obtain ⟨rfl, rfl, rfl, rfl, rfl⟩ := H; have hn13 := nn NB171_172; have hz14 := bc3 BK171; have hz15 := bc4 BK172
    go_wp2
    refine bodyPost_ret (results_ct rfl _ _ gb172 37 #[.int .i64 0, .int .i64 0, .int .i64 0, .slice none 0 0] (0, 0) _ rfl (bk BK172) Tryz.underlying37 rfl (by kernel_rfl)) rfl ?_; exact ⟨_, by first | rfl | (simp [errW_none, errW_some] <;> rfl) | (simp [*, errW_none, errW_some] <;> rfl), Kd.V_nil _ _ _ _ _, bl⟩
end Go.Proofs.YtijoaohckgbneaaGreat.PAll
