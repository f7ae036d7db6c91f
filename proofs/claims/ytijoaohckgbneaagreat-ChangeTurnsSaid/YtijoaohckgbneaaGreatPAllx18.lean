-- out of a driver of this session's prover over the kit's print: Lean checks it
import Derived.Test.YtijoaohckgbneaaGreatPAllx0
import Derived.Test.YtijoaohckgbneaaGreatPAllx14
import Derived.Test.YtijoaohckgbneaaGreatPAllx17
namespace Go.Proofs.YtijoaohckgbneaaGreat.PAll
open Go.Proofs.YtijoaohckgbneaaGreatG Go.Shelf Go.Lib
open Go.RowKit Go.Proofs.YtijoaohckgbneaaGreatW.PrintWords Go.Proofs.YtijoaohckgbneaaGreatW.PrintLast Go.Proofs.YtijoaohckgbneaaGreatW.PrintMore
attribute [local go_sem] max2_int min2_int max_two min_two max_three min_three max_four min_four   -- for this text's walks alone
set_option linter.unusedVariables false
set_option linter.unusedSimpArgs false
mutual
def mapmakerref14_rel.l0 : Nat → Int → List (S37) → List (S40) → List (S43) → Int → List (S112) → List (S129) → Option (Int)
 | 0, _, _, _, _, _, _, _ => none
 | k + 1, x5, x224000, x224001, x224002, x225000, x225001, x225002 => if x5 < (x225001.length : Int) then (if 0 ≤ x5 then (if (((rd_T112 x225001 x5).f1).size : Int) > 64 then (some 5) else (mapmakerref14_rel.l0 k (wrap64 (x5 + 1)) x224000 x224001 x224002 x225000 x225001 x225002)) else (none)) else (mapmakerref14_rel.l1 k 0 x224000 x224001 x224002 x225000 x225001 x225002)
def mapmakerref14_rel.l1 : Nat → Int → List (S37) → List (S40) → List (S43) → Int → List (S112) → List (S129) → Option (Int)
 | 0, _, _, _, _, _, _, _ => none
 | k + 1, x6, x224000, x224001, x224002, x225000, x225001, x225002 => if x6 < (x225001.length : Int) then (if 0 ≤ x6 then (if ((rd_T112 x225001 x6).f0.f0) = 1 then ((mapmakerref14_Has.f k x224000 x224001 x224002 ((rd_T112 x225001 x6).f0.f0) ((rd_T112 x225001 x6).f0.f1)).bind fun t228 => (if t228 = true then (mapmakerref14_rel.l1 k (wrap64 (x6 + 1)) x224000 x224001 x224002 x225000 x225001 x225002) else (some 9))) else (if ((rd_T112 x225001 x6).f0.f0) = 2 then ((mapmakerref14_Has.f k x224000 x224001 x224002 ((rd_T112 x225001 x6).f0.f0) ((rd_T112 x225001 x6).f0.f1)).bind fun t229 => (if t229 = true then (mapmakerref14_rel.l1 k (wrap64 (x6 + 1)) x224000 x224001 x224002 x225000 x225001 x225002) else (some 9))) else (some 9))) else (none)) else ((mapmakerref06_Check.f k x225002).bind fun t230 => (some t230))
end
def mapmakerref14_rel.f (k : Nat) (l0_0 : List (S37)) (l0_1 : List (S40)) (l0_2 : List (S43)) (a1_0 : Int) (l1_1 : List (S112)) (l1_2 : List (S129)) : Option (Int) := if (l1_1.length : Int) > 200 then (some 5) else (mapmakerref14_rel.l0 k 0 l0_0 l0_1 l0_2 a1_0 l1_1 l1_2)
theorem mapmakerref14_rel.mono_l : ∀ k, (∀ y0 y1 y2 y3 y4 y5 y6, LeO (mapmakerref14_rel.l0 k y0 y1 y2 y3 y4 y5 y6) (mapmakerref14_rel.l0 (k + 1) y0 y1 y2 y3 y4 y5 y6)) ∧ (∀ y0 y1 y2 y3 y4 y5 y6, LeO (mapmakerref14_rel.l1 k y0 y1 y2 y3 y4 y5 y6) (mapmakerref14_rel.l1 (k + 1) y0 y1 y2 y3 y4 y5 y6))
 | 0 => ⟨fun _ _ _ _ _ _ _ r h => by simp [mapmakerref14_rel.l0] at h, fun _ _ _ _ _ _ _ r h => by simp [mapmakerref14_rel.l1] at h⟩
 | k + 1 => by
  obtain ⟨ih0, ih1⟩ := mapmakerref14_rel.mono_l k
  refine ⟨?_, ?_⟩
  ·intro y0 y1 y2 y3 y4 y5 y6
   unfold mapmakerref14_rel.l0
   repeat' first
   | (with_reducible exact ih0 _ _ _ _ _ _ _)
   | (with_reducible exact ih1 _ _ _ _ _ _ _)
   | (with_reducible exact mapmakerref06_Check.mono _ _)
   | (with_reducible exact mapmakerref14_Has.mono _ _ _ _ _ _)
   | (with_reducible exact LeO.refl _)
   | (with_reducible exact LeO.none _)
   | (with_reducible refine LeO.ite ?_ ?_)
   | (with_reducible refine LeO.bind ?_ (fun _ => ?_))
   | exact ih0 _ _ _ _ _ _ _
   | exact ih1 _ _ _ _ _ _ _
   | exact mapmakerref06_Check.mono _ _
   | exact mapmakerref14_Has.mono _ _ _ _ _ _
   | exact LeO.none _
   | refine LeO.ite ?_ ?_
   | refine LeO.bind ?_ (fun _ => ?_)
  ·intro y0 y1 y2 y3 y4 y5 y6
   unfold mapmakerref14_rel.l1
   repeat' first
   | (with_reducible exact ih0 _ _ _ _ _ _ _)
   | (with_reducible exact ih1 _ _ _ _ _ _ _)
   | (with_reducible exact mapmakerref06_Check.mono _ _)
   | (with_reducible exact mapmakerref14_Has.mono _ _ _ _ _ _)
   | (with_reducible exact LeO.refl _)
   | (with_reducible exact LeO.none _)
   | (with_reducible refine LeO.ite ?_ ?_)
   | (with_reducible refine LeO.bind ?_ (fun _ => ?_))
   | exact ih0 _ _ _ _ _ _ _
   | exact ih1 _ _ _ _ _ _ _
   | exact mapmakerref06_Check.mono _ _
   | exact mapmakerref14_Has.mono _ _ _ _ _ _
   | exact LeO.none _
   | refine LeO.ite ?_ ?_
   | refine LeO.bind ?_ (fun _ => ?_)
theorem mapmakerref14_rel.mono : ∀ a0 a1 a2 a3 a4 a5 k, LeO (mapmakerref14_rel.f k a0 a1 a2 a3 a4 a5) (mapmakerref14_rel.f (k + 1) a0 a1 a2 a3 a4 a5) := by
 intro a0 a1 a2 a3 a4 a5 k; obtain ⟨ih0, ih1⟩ := mapmakerref14_rel.mono_l k; unfold mapmakerref14_rel.f
 repeat' first
   | (with_reducible exact ih0 _ _ _ _ _ _ _)
   | (with_reducible exact ih1 _ _ _ _ _ _ _)
   | (with_reducible exact mapmakerref06_Check.mono _ _)
   | (with_reducible exact mapmakerref14_Has.mono _ _ _ _ _ _)
   | (with_reducible exact LeO.refl _)
   | (with_reducible exact LeO.none _)
   | (with_reducible refine LeO.ite ?_ ?_)
   | (with_reducible refine LeO.bind ?_ (fun _ => ?_))
   | exact ih0 _ _ _ _ _ _ _
   | exact ih1 _ _ _ _ _ _ _
   | exact mapmakerref06_Check.mono _ _
   | exact mapmakerref14_Has.mono _ _ _ _ _ _
   | exact LeO.none _
   | refine LeO.ite ?_ ?_
   | refine LeO.bind ?_ (fun _ => ?_)
set_option maxHeartbeats 8000000 in
set_option maxRecDepth 100000 in
theorem mapmakerref14_rel.calls (k : Nat) (A0_0 : Option Addr) (c0_0 : Nat) (l0_0 : List (S37)) (A0_1 : Option Addr) (c0_1 : Nat) (l0_1 : List (S40)) (A0_2 : Option Addr) (c0_2 : Nat) (l0_2 : List (S43)) (a1_0 : Int) (A1_1 : Option Addr) (c1_1 : Nat) (l1_1 : List (S112)) (A1_2 : Option Addr) (c1_2 : Nat) (l1_2 : List (S129)) (r : Int) (w : World) (hr0_0 : Kd.C k37 w A0_0 l0_0.length l0_0) (hc0_0 : l0_0.length ≤ c0_0) (hr0_1 : Kd.C k40 w A0_1 l0_1.length l0_1) (hc0_1 : l0_1.length ≤ c0_1) (hr0_2 : Kd.C k43 w A0_2 l0_2.length l0_2) (hc0_2 : l0_2.length ≤ c0_2) (hr1_1 : Kd.C k112 w A1_1 l1_1.length l1_1) (hc1_1 : l1_1.length ≤ c1_1) (hr1_2 : Kd.C k129 w A1_2 l1_2.length l1_2) (hc1_2 : l1_2.length ≤ c1_2) (h : mapmakerref14_rel.f k l0_0 l0_1 l0_2 a1_0 l1_1 l1_2 = some r) :
  Calls Tryz.prog 42 #[.agg #[.slice A0_0 l0_0.length c0_0, .slice A0_1 l0_1.length c0_1, .slice A0_2 l0_2.length c0_2], .agg #[.int .i64 a1_0, .slice A1_1 l1_1.length c1_1, .slice A1_2 l1_2.length c1_2]] w fun e w' => e = .returned (.int .i64 r) ∧ Below w.heap.size w w' := by
 have hu26 := Tryz.underlying26; have hu43 := Tryz.underlying43; have hu48 := Tryz.underlying48; have HR0_0 := aM hr0_0; have HC0_0 := aM hc0_0; clear hr0_0 hc0_0; have HR0_1 := aM hr0_1; have HC0_1 := aM hc0_1; clear hr0_1 hc0_1; have HR0_2 := aM hr0_2; have HC0_2 := aM hc0_2; clear hr0_2 hc0_2; have HR1_1 := aM hr1_1; have HC1_1 := aM hc1_1; clear hr1_1 hc1_1; have HR1_2 := aM hr1_2; have HC1_2 := aM hc1_2; clear hr1_2 hc1_2; have HB := aM (Below.refl w.heap.size w); have H : (if (l1_1.length : Int) > 200 then (some 5) else (mapmakerref14_rel.l0 k 0 l0_0 l0_1 l0_2 a1_0 l1_1 l1_2)) = some r := h; clear h
 by_cases c3 : (l1_1.length : Int) > 200
 ·rw [if_pos c3] at H; have c3b0 : decide (200 < (l1_1.length : Int)) = true := decide_eq_true c3; have c3b1 : decide (200 < l1_1.length) = true := decide_eq_true (by omega); clear c3; obtain rfl := Option.some.inj H; go_enter Tryz.func42, Tryz.ntmps42
  go_wp2_with (first | ((with_reducible refine gate_dst (N := 2) rfl ?_); refine bx (N := 2) (cs := #[.slice A0_0 l0_0.length c0_0, .slice A0_1 l0_1.length c0_1, .slice A0_2 l0_2.length c0_2]) (t := 26) ?_; intro gb223 hg w4 hbox hb; have BK223 := aM (hbox); have GE223 := aM (gw (w := w) hg); replace HB := aM (bS (bl) hb); clear hb hbox hg) | ((with_reducible refine gate_dst (N := 3) rfl ?_); refine bx (N := 3) (cs := #[.int .i64 a1_0, .slice A1_1 l1_1.length c1_1, .slice A1_2 l1_2.length c1_2]) (t := 43) ?_; intro gb224 hg w5 hbox hb; have BK224 := aM (hbox); have GE224 := aM (gw (w := w) hg); obtain ⟨NB223_224, NB224_223⟩ := n2 BK223 hg; replace HB := aM (bS (bl) hb); (try clear BK223); clear hb hbox hg; have hn6 := nn NB224_223; have hz7 := bc3 BK224))
  go_ret; exact ⟨by first | rfl | (simp [errW_none, errW_some] <;> rfl) | (simp [*, errW_none, errW_some] <;> rfl), bl⟩
 ·rw [if_neg c3] at H; have c3b0 : decide (200 < (l1_1.length : Int)) = false := decide_eq_false c3; have c3b1 : decide (200 < l1_1.length) = false := decide_eq_false (by omega); clear c3; have H' := aM H; clear H; go_enter Tryz.func42, Tryz.ntmps42
  go_wp2_with (first | ((with_reducible refine gate_dst (N := 2) rfl ?_); refine bx (N := 2) (cs := #[.slice A0_0 l0_0.length c0_0, .slice A0_1 l0_1.length c0_1, .slice A0_2 l0_2.length c0_2]) (t := 26) ?_; intro gb223 hg w8 hbox hb; have BK223 := aM (hbox); have GE223 := aM (gw (w := w) hg); replace HB := aM (bS (bl) hb); clear hb hbox hg) | ((with_reducible refine gate_dst (N := 3) rfl ?_); refine bx (N := 3) (cs := #[.int .i64 a1_0, .slice A1_1 l1_1.length c1_1, .slice A1_2 l1_2.length c1_2]) (t := 43) ?_; intro gb224 hg w9 hbox hb; have BK224 := aM (hbox); have GE224 := aM (gw (w := w) hg); obtain ⟨NB223_224, NB224_223⟩ := n2 BK223 hg; replace BK223 := aM (kB (kl BK223) hb); replace HB := aM (bS (bl) hb); clear hb hbox hg; have hn10 := nn NB224_223; have hz11 := bc3 BK224))
  go_loopg [5] k (fun kq v5 w' => ∃ (x5_1 : Int), v5 = .int .i64 x5_1 ∧ Aside0 (mapmakerref14_rel.l0 kq x5_1 l0_0 l0_1 l0_2 a1_0 l1_1 l1_2 = some r) ∧ Aside0 (kq ≤ k) ∧ Aside0 (w'.heap[gb223]? = some (.cells #[(.slice A0_0 l0_0.length c0_0), (.slice A0_1 l0_1.length c0_1), (.slice A0_2 l0_2.length c0_2)] 26 (0, 0))) ∧ Aside0 (w'.heap[gb224]? = some (.cells #[.int .i64 a1_0, (.slice A1_1 l1_1.length c1_1), (.slice A1_2 l1_2.length c1_2)] 43 (0, 0))) ∧ Aside0 (Below w.heap.size w w'))
  case atStart => exact ⟨(0), (by first | rfl | (simp; done) | (simp [*]; done)), H', ⟨Nat.le_refl _⟩, ⟨kl BK223⟩, ⟨kl BK224⟩, ⟨bl⟩⟩
  case round =>
   clear H'; (try clear c3); (try clear c3b0); (try clear c3b1); (try clear hz11); (try clear hz7); obtain ⟨x5_1, rfl, HA, HK1, BK223, BK224, HB⟩ := hrel
   cases gk with
   | zero => exact absurd HA.out (by simp [mapmakerref14_rel.l0])
   | succ k1 =>
    have H := HA.out; clear HA; simp only [mapmakerref14_rel.l0] at H
    by_cases c12 : x5_1 < (l1_1.length : Int)
    ·rw [if_pos c12] at H; have c12b0 : decide (x5_1 < (l1_1.length : Int)) = true := decide_eq_true c12; clear c12
     by_cases c13 : 0 ≤ x5_1
     ·rw [if_pos c13] at H; have c13b0 : decide (0 ≤ x5_1) = true := decide_eq_true c13; clear c13
      by_cases c14 : (((rd_T112 l1_1 x5_1).f1).size : Int) > 64
      ·rw [if_pos c14] at H; have c14b0 : decide (64 < (((rd_T112 l1_1 x5_1).f1).size : Int)) = true := decide_eq_true c14; have c14b1 : decide (64 < ((rd_T112 l1_1 x5_1).f1).size) = true := decide_eq_true (by omega); clear c14; obtain rfl := Option.some.inj H; have hn15 := nn NB224_223; have hz16 := bc3 BK224; have p225 : 0 ≤ (x5_1 : Int) := oT; have q225 : x5_1 < (l1_1.length : Int) := oT; obtain ⟨ad225, e225, hx225_0, hx225_1, hx225_2⟩ := at_T112 HR1_1.out x5_1 p225 q225; cases e225
       replace hx225_0 := hs HB.out hx225_0; replace hx225_1 := hs HB.out hx225_1; replace hx225_2 := hs HB.out hx225_2; replace p225 := eq_true p225; replace q225 := eq_true q225
       go_wp2
       go_ret; exact ⟨by first | rfl | (simp [errW_none, errW_some] <;> rfl) | (simp [*, errW_none, errW_some] <;> rfl), bl⟩
      ·rw [if_neg c14] at H; have c14b0 : decide (64 < (((rd_T112 l1_1 x5_1).f1).size : Int)) = false := decide_eq_false c14; have c14b1 : decide (64 < ((rd_T112 l1_1 x5_1).f1).size) = false := decide_eq_false (by omega); clear c14; have H' := aM H; clear H; have hn17 := nn NB224_223; have hz18 := bc3 BK224; have p225 : 0 ≤ (x5_1 : Int) := oT; have q225 : x5_1 < (l1_1.length : Int) := oT; obtain ⟨ad225, e225, hx225_0, hx225_1, hx225_2⟩ := at_T112 HR1_1.out x5_1 p225 q225; cases e225
       replace hx225_0 := hs HB.out hx225_0; replace hx225_1 := hs HB.out hx225_1; replace hx225_2 := hs HB.out hx225_2; replace p225 := eq_true p225; replace q225 := eq_true q225
       go_wp2
       go_roundg k1
       case measure => have := HK1.out; omega
       case rel => exact ⟨(wrap64 (x5_1 + 1)), (by first | rfl | (simp; done) | (simp [*]; done)), H', ⟨by have := HK1.out; omega⟩, ⟨kl BK223⟩, ⟨kl BK224⟩, ⟨bl⟩⟩
     ·rw [if_neg c13] at H; exact absurd H (by simp)
    ·rw [if_neg c12] at H; have c12b0 : decide (x5_1 < (l1_1.length : Int)) = false := decide_eq_false c12; clear c12; have H' := aM H; clear H; have hn19 := nn NB224_223; have hz20 := bc3 BK224
     go_wp2
     go_loopg [6] k1 (fun kq v6 w' => ∃ (x6_2 : Int), v6 = .int .i64 x6_2 ∧ Aside0 (mapmakerref14_rel.l1 kq x6_2 l0_0 l0_1 l0_2 a1_0 l1_1 l1_2 = some r) ∧ Aside0 (kq ≤ k1) ∧ Aside0 (w'.heap[gb223]? = some (.cells #[(.slice A0_0 l0_0.length c0_0), (.slice A0_1 l0_1.length c0_1), (.slice A0_2 l0_2.length c0_2)] 26 (0, 0))) ∧ Aside0 (w'.heap[gb224]? = some (.cells #[.int .i64 a1_0, (.slice A1_1 l1_1.length c1_1), (.slice A1_2 l1_2.length c1_2)] 43 (0, 0))) ∧ Aside0 (Below w.heap.size w w'))
     case atStart => exact ⟨(0), (by first | rfl | (simp; done) | (simp [*]; done)), H', ⟨Nat.le_refl _⟩, ⟨kl BK223⟩, ⟨kl BK224⟩, ⟨bl⟩⟩
     case round =>
      clear H'; (try clear c3); (try clear c3b0); (try clear c3b1); (try clear c12); (try clear c12b0); (try clear c13); (try clear c13b0); (try clear c14); (try clear c14b0); (try clear c14b1); (try clear hz11); (try clear hz16); (try clear hz18); (try clear hz20); (try clear hz7); (try clear hx225_0); (try clear hx225_1); (try clear hx225_2); (try clear p225); (try clear q225); obtain ⟨x6_2, rfl, HA, HK2, BK223, BK224, HB⟩ := hrel
      cases gk with
      | zero => exact absurd HA.out (by simp [mapmakerref14_rel.l1])
      | succ k2 =>
       have H := HA.out; clear HA; simp only [mapmakerref14_rel.l1] at H
       by_cases c21 : x6_2 < (l1_1.length : Int)
       ·rw [if_pos c21] at H; have c21b0 : decide (x6_2 < (l1_1.length : Int)) = true := decide_eq_true c21; clear c21
        by_cases c22 : 0 ≤ x6_2
        ·rw [if_pos c22] at H; have c22b0 : decide (0 ≤ x6_2) = true := decide_eq_true c22; clear c22
         by_cases c23 : ((rd_T112 l1_1 x6_2).f0.f0) = 1
         ·rw [if_pos c23] at H; have c23b0 : (((rd_T112 l1_1 x6_2).f0.f0) == 1) = true := beq_iff_eq.mpr c23; have c23b1 : (((rd_T112 l1_1 x6_2).f0.f0) != 1) = false := bne_eq_false_iff_eq.mpr c23; clear c23; replace H := Option.bind_eq_some_iff.mp H; obtain ⟨t228, A240, H⟩ := H; (try dsimp only at H); have A24 := aM A240; clear A240
          by_cases c25 : t228 = true
          ·subst c25; have H1 : (mapmakerref14_rel.l1 k2 (wrap64 (x6_2 + 1)) l0_0 l0_1 l0_2 a1_0 l1_1 l1_2) = some r := by rw [if_pos rfl] at H; exact H
           clear H; have H := H1; clear H1; have H' := aM H; clear H; have hn26 := nn NB224_223; have hz27 := bc3 BK224; have p226 : 0 ≤ (x6_2 : Int) := oT; have q226 : x6_2 < (l1_1.length : Int) := oT; obtain ⟨ad226, e226, hx226_0, hx226_1, hx226_2⟩ := at_T112 HR1_1.out x6_2 p226 q226; cases e226
           replace hx226_0 := hs HB.out hx226_0; replace hx226_1 := hs HB.out hx226_1; replace hx226_2 := hs HB.out hx226_2; replace p226 := eq_true p226; replace q226 := eq_true q226
           go_wp2_with (first | ((with_reducible refine gate_dst (N := 7) rfl ?_); refine bx (N := 7) (cs := #[.int .i64 0, .int .i64 0]) (t := 48) ?_; intro gb227 hg w28 hbox hb; have BK227 := aM (hbox); have GE227 := aM (gw (w := w) hg); obtain ⟨NB223_227, NB227_223⟩ := n2 BK223 hg; obtain ⟨NB224_227, NB227_224⟩ := n2 BK224 hg; replace BK223 := aM (kB (kl BK223) hb); replace BK224 := aM (kB (kl BK224) hb); replace HB := aM (bS (bl) hb); clear hb hbox hg; have hn29 := nn NB227_223; have hn30 := nn NB227_224; have hz31 := bc2 BK227; have hz32 := bc3 BK223) | (go_at_call 26; (with_reducible refine (mapmakerref14_Has.calls k2 _ _ l0_0 _ _ l0_1 _ _ l0_2 ((rd_T112 l1_1 x6_2).f0.f0) ((rd_T112 l1_1 x6_2).f0.f1) true _ ?side1 ?side2 ?side3 ?side4 ?side5 ?side6 A24.out).mono ?_); (case side1 => exact Kd.C_below HR0_0.out (bl)); (case side2 => exact HC0_0.out); (case side3 => exact Kd.C_below HR0_1.out (bl)); (case side4 => exact HC0_1.out); (case side5 => exact Kd.C_below HR0_2.out (bl)); (case side6 => exact HC0_2.out); rintro e w33 ⟨rfl, hb⟩; replace BK223 := aM (kB (g := gb223) (o := .cells #[.slice A0_0 l0_0.length c0_0, .slice A0_1 l0_1.length c0_1, .slice A0_2 l0_2.length c0_2] 26 (0, 0)) (bk BK223) hb); replace BK224 := aM (kB (g := gb224) (o := .cells #[.int .i64 a1_0, .slice (some ad226) l1_1.length c1_1, .slice A1_2 l1_2.length c1_2] 43 (0, 0)) (bk BK224) hb); replace BK227 := aM (kB (g := gb227) (o := .cells #[.int .i64 ((rd_T112 l1_1 x6_2).f0.f0), .int .i64 ((rd_T112 l1_1 x6_2).f0.f1)] 48 (0, 0)) (bk BK227) hb); replace HB := aM (bS (bl) hb); (try clear hb)))
           go_roundg k2
           case measure => have := HK1.out; have := HK2.out; omega
           case rel => exact ⟨(wrap64 (x6_2 + 1)), (by first | rfl | (simp; done) | (simp [*]; done)), H', ⟨by have := HK1.out; have := HK2.out; omega⟩, ⟨kl BK223⟩, ⟨kl BK224⟩, ⟨bl⟩⟩
          ·replace c25 := Bool.eq_false_iff.mpr c25; subst c25; have H1 : (some 9) = some r := by rw [if_neg (show ¬ (false = true) by decide)] at H; exact H
           clear H; have H := H1; clear H1; obtain rfl := Option.some.inj H; have hn34 := nn NB224_223; have hz35 := bc3 BK224; have p226 : 0 ≤ (x6_2 : Int) := oT; have q226 : x6_2 < (l1_1.length : Int) := oT; obtain ⟨ad226, e226, hx226_0, hx226_1, hx226_2⟩ := at_T112 HR1_1.out x6_2 p226 q226; cases e226
           replace hx226_0 := hs HB.out hx226_0; replace hx226_1 := hs HB.out hx226_1; replace hx226_2 := hs HB.out hx226_2; replace p226 := eq_true p226; replace q226 := eq_true q226
           go_wp2_with (first | ((with_reducible refine gate_dst (N := 7) rfl ?_); refine bx (N := 7) (cs := #[.int .i64 0, .int .i64 0]) (t := 48) ?_; intro gb227 hg w36 hbox hb; have BK227 := aM (hbox); have GE227 := aM (gw (w := w) hg); obtain ⟨NB223_227, NB227_223⟩ := n2 BK223 hg; obtain ⟨NB224_227, NB227_224⟩ := n2 BK224 hg; replace BK223 := aM (kB (kl BK223) hb); replace BK224 := aM (kB (kl BK224) hb); replace HB := aM (bS (bl) hb); clear hb hbox hg; have hn37 := nn NB227_223; have hn38 := nn NB227_224; have hz39 := bc2 BK227; have hz40 := bc3 BK223) | (go_at_call 26; (with_reducible refine (mapmakerref14_Has.calls k2 _ _ l0_0 _ _ l0_1 _ _ l0_2 ((rd_T112 l1_1 x6_2).f0.f0) ((rd_T112 l1_1 x6_2).f0.f1) false _ ?side1 ?side2 ?side3 ?side4 ?side5 ?side6 A24.out).mono ?_); (case side1 => exact Kd.C_below HR0_0.out (bl)); (case side2 => exact HC0_0.out); (case side3 => exact Kd.C_below HR0_1.out (bl)); (case side4 => exact HC0_1.out); (case side5 => exact Kd.C_below HR0_2.out (bl)); (case side6 => exact HC0_2.out); rintro e w41 ⟨rfl, hb⟩; replace BK223 := aM (kB (g := gb223) (o := .cells #[.slice A0_0 l0_0.length c0_0, .slice A0_1 l0_1.length c0_1, .slice A0_2 l0_2.length c0_2] 26 (0, 0)) (bk BK223) hb); replace BK224 := aM (kB (g := gb224) (o := .cells #[.int .i64 a1_0, .slice (some ad226) l1_1.length c1_1, .slice A1_2 l1_2.length c1_2] 43 (0, 0)) (bk BK224) hb); replace BK227 := aM (kB (g := gb227) (o := .cells #[.int .i64 ((rd_T112 l1_1 x6_2).f0.f0), .int .i64 ((rd_T112 l1_1 x6_2).f0.f1)] 48 (0, 0)) (bk BK227) hb); replace HB := aM (bS (bl) hb); (try clear hb)))
           go_ret; exact ⟨by first | rfl | (simp [errW_none, errW_some] <;> rfl) | (simp [*, errW_none, errW_some] <;> rfl), bl⟩
         ·rw [if_neg c23] at H; have c23b0 : (((rd_T112 l1_1 x6_2).f0.f0) == 1) = false := beq_eq_false_iff_ne.mpr c23; have c23b1 : (((rd_T112 l1_1 x6_2).f0.f0) != 1) = true := bne_iff_ne.mpr c23
          by_cases c42 : ((rd_T112 l1_1 x6_2).f0.f0) = 2
          ·rw [if_pos c42] at H; have c42b0 : (((rd_T112 l1_1 x6_2).f0.f0) == 2) = true := beq_iff_eq.mpr c42; have c42b1 : (((rd_T112 l1_1 x6_2).f0.f0) != 2) = false := bne_eq_false_iff_eq.mpr c42; clear c42; replace H := Option.bind_eq_some_iff.mp H; obtain ⟨t229, A430, H⟩ := H; (try dsimp only at H); have A43 := aM A430; clear A430
           by_cases c44 : t229 = true
           ·subst c44; have H1 : (mapmakerref14_rel.l1 k2 (wrap64 (x6_2 + 1)) l0_0 l0_1 l0_2 a1_0 l1_1 l1_2) = some r := by rw [if_pos rfl] at H; exact H
            clear H; have H := H1; clear H1; have H' := aM H; clear H; have hn45 := nn NB224_223; have hz46 := bc3 BK224; have p226 : 0 ≤ (x6_2 : Int) := oT; have q226 : x6_2 < (l1_1.length : Int) := oT; obtain ⟨ad226, e226, hx226_0, hx226_1, hx226_2⟩ := at_T112 HR1_1.out x6_2 p226 q226; cases e226
            replace hx226_0 := hs HB.out hx226_0; replace hx226_1 := hs HB.out hx226_1; replace hx226_2 := hs HB.out hx226_2; replace p226 := eq_true p226; replace q226 := eq_true q226
            go_wp2_with (first | ((with_reducible refine gate_dst (N := 7) rfl ?_); refine bx (N := 7) (cs := #[.int .i64 0, .int .i64 0]) (t := 48) ?_; intro gb227 hg w47 hbox hb; have BK227 := aM (hbox); have GE227 := aM (gw (w := w) hg); obtain ⟨NB223_227, NB227_223⟩ := n2 BK223 hg; obtain ⟨NB224_227, NB227_224⟩ := n2 BK224 hg; replace BK223 := aM (kB (kl BK223) hb); replace BK224 := aM (kB (kl BK224) hb); replace HB := aM (bS (bl) hb); clear hb hbox hg; have hn48 := nn NB227_223; have hn49 := nn NB227_224; have hz50 := bc2 BK227; have hz51 := bc3 BK223) | (go_at_call 26; (with_reducible refine (mapmakerref14_Has.calls k2 _ _ l0_0 _ _ l0_1 _ _ l0_2 ((rd_T112 l1_1 x6_2).f0.f0) ((rd_T112 l1_1 x6_2).f0.f1) true _ ?side1 ?side2 ?side3 ?side4 ?side5 ?side6 A43.out).mono ?_); (case side1 => exact Kd.C_below HR0_0.out (bl)); (case side2 => exact HC0_0.out); (case side3 => exact Kd.C_below HR0_1.out (bl)); (case side4 => exact HC0_1.out); (case side5 => exact Kd.C_below HR0_2.out (bl)); (case side6 => exact HC0_2.out); rintro e w52 ⟨rfl, hb⟩; replace BK223 := aM (kB (g := gb223) (o := .cells #[.slice A0_0 l0_0.length c0_0, .slice A0_1 l0_1.length c0_1, .slice A0_2 l0_2.length c0_2] 26 (0, 0)) (bk BK223) hb); replace BK224 := aM (kB (g := gb224) (o := .cells #[.int .i64 a1_0, .slice (some ad226) l1_1.length c1_1, .slice A1_2 l1_2.length c1_2] 43 (0, 0)) (bk BK224) hb); replace BK227 := aM (kB (g := gb227) (o := .cells #[.int .i64 ((rd_T112 l1_1 x6_2).f0.f0), .int .i64 ((rd_T112 l1_1 x6_2).f0.f1)] 48 (0, 0)) (bk BK227) hb); replace HB := aM (bS (bl) hb); (try clear hb)))
            go_roundg k2
            case measure => have := HK1.out; have := HK2.out; omega
            case rel => exact ⟨(wrap64 (x6_2 + 1)), (by first | rfl | (simp; done) | (simp [*]; done)), H', ⟨by have := HK1.out; have := HK2.out; omega⟩, ⟨kl BK223⟩, ⟨kl BK224⟩, ⟨bl⟩⟩
           ·replace c44 := Bool.eq_false_iff.mpr c44; subst c44; have H1 : (some 9) = some r := by rw [if_neg (show ¬ (false = true) by decide)] at H; exact H
            clear H; have H := H1; clear H1; obtain rfl := Option.some.inj H; have hn53 := nn NB224_223; have hz54 := bc3 BK224; have p226 : 0 ≤ (x6_2 : Int) := oT; have q226 : x6_2 < (l1_1.length : Int) := oT; obtain ⟨ad226, e226, hx226_0, hx226_1, hx226_2⟩ := at_T112 HR1_1.out x6_2 p226 q226; cases e226
            replace hx226_0 := hs HB.out hx226_0; replace hx226_1 := hs HB.out hx226_1; replace hx226_2 := hs HB.out hx226_2; replace p226 := eq_true p226; replace q226 := eq_true q226
            go_wp2_with (first | ((with_reducible refine gate_dst (N := 7) rfl ?_); refine bx (N := 7) (cs := #[.int .i64 0, .int .i64 0]) (t := 48) ?_; intro gb227 hg w55 hbox hb; have BK227 := aM (hbox); have GE227 := aM (gw (w := w) hg); obtain ⟨NB223_227, NB227_223⟩ := n2 BK223 hg; obtain ⟨NB224_227, NB227_224⟩ := n2 BK224 hg; replace BK223 := aM (kB (kl BK223) hb); replace BK224 := aM (kB (kl BK224) hb); replace HB := aM (bS (bl) hb); clear hb hbox hg; have hn56 := nn NB227_223; have hn57 := nn NB227_224; have hz58 := bc2 BK227; have hz59 := bc3 BK223) | (go_at_call 26; (with_reducible refine (mapmakerref14_Has.calls k2 _ _ l0_0 _ _ l0_1 _ _ l0_2 ((rd_T112 l1_1 x6_2).f0.f0) ((rd_T112 l1_1 x6_2).f0.f1) false _ ?side1 ?side2 ?side3 ?side4 ?side5 ?side6 A43.out).mono ?_); (case side1 => exact Kd.C_below HR0_0.out (bl)); (case side2 => exact HC0_0.out); (case side3 => exact Kd.C_below HR0_1.out (bl)); (case side4 => exact HC0_1.out); (case side5 => exact Kd.C_below HR0_2.out (bl)); (case side6 => exact HC0_2.out); rintro e w60 ⟨rfl, hb⟩; replace BK223 := aM (kB (g := gb223) (o := .cells #[.slice A0_0 l0_0.length c0_0, .slice A0_1 l0_1.length c0_1, .slice A0_2 l0_2.length c0_2] 26 (0, 0)) (bk BK223) hb); replace BK224 := aM (kB (g := gb224) (o := .cells #[.int .i64 a1_0, .slice (some ad226) l1_1.length c1_1, .slice A1_2 l1_2.length c1_2] 43 (0, 0)) (bk BK224) hb); replace BK227 := aM (kB (g := gb227) (o := .cells #[.int .i64 ((rd_T112 l1_1 x6_2).f0.f0), .int .i64 ((rd_T112 l1_1 x6_2).f0.f1)] 48 (0, 0)) (bk BK227) hb); replace HB := aM (bS (bl) hb); (try clear hb)))
            go_ret; exact ⟨by first | rfl | (simp [errW_none, errW_some] <;> rfl) | (simp [*, errW_none, errW_some] <;> rfl), bl⟩
          ·rw [if_neg c42] at H; have c42b0 : (((rd_T112 l1_1 x6_2).f0.f0) == 2) = false := beq_eq_false_iff_ne.mpr c42; have c42b1 : (((rd_T112 l1_1 x6_2).f0.f0) != 2) = true := bne_iff_ne.mpr c42; obtain rfl := Option.some.inj H; have hn61 := nn NB224_223; have hz62 := bc3 BK224; have p226 : 0 ≤ (x6_2 : Int) := oT; have q226 : x6_2 < (l1_1.length : Int) := oT; obtain ⟨ad226, e226, hx226_0, hx226_1, hx226_2⟩ := at_T112 HR1_1.out x6_2 p226 q226; cases e226
           replace hx226_0 := hs HB.out hx226_0; replace hx226_1 := hs HB.out hx226_1; replace hx226_2 := hs HB.out hx226_2; replace p226 := eq_true p226; replace q226 := eq_true q226
           go_wp2_with (first | ((with_reducible refine gate_dst (N := 7) rfl ?_); refine bx (N := 7) (cs := #[.int .i64 0, .int .i64 0]) (t := 48) ?_; intro gb227 hg w63 hbox hb; have BK227 := aM (hbox); have GE227 := aM (gw (w := w) hg); obtain ⟨NB223_227, NB227_223⟩ := n2 BK223 hg; obtain ⟨NB224_227, NB227_224⟩ := n2 BK224 hg; replace HB := aM (bS (bl) hb); clear BK223 BK224 hb hbox hg; have hn64 := nn NB227_223; have hn65 := nn NB227_224; have hz66 := bc2 BK227))
           go_ret; exact ⟨by first | rfl | (simp [errW_none, errW_some] <;> rfl) | (simp [*, errW_none, errW_some] <;> rfl), bl⟩
        ·rw [if_neg c22] at H; exact absurd H (by simp)
       ·rw [if_neg c21] at H; have c21b0 : decide (x6_2 < (l1_1.length : Int)) = false := decide_eq_false c21; clear c21; replace H := Option.bind_eq_some_iff.mp H; obtain ⟨t230, A670, H⟩ := H; (try dsimp only at H); have A67 := aM A670; clear A670; obtain rfl := Option.some.inj H; have hn68 := nn NB224_223; have hz69 := bc3 BK224
        go_wp2_with (first | ((with_reducible refine gate_callee (f := 63) rfl ?_); refine goesL_ (some 56) rfl rfl Tryz.func63 (by kernel_rfl) rfl #[.slice A1_2 l1_2.length c1_2] rfl (by (try simp only [List.map_toArray, List.map_cons, List.map_nil]); first | done | rfl | (simp only [List.length_drop, List.length_take]; rfl)) ?_; (with_reducible refine (mapmakerref06_Check.calls k2 _ _ l1_2 t230 _ ?side1 ?side2 A67.out).mono ?_); (case side1 => exact cl HR1_2); (case side2 => exact HC1_2.out); rintro e w70 ⟨rfl, hb⟩; refine ⟨_, rfl, ?_⟩; replace HB := aM (bS (bl) hb); clear BK223 BK224; (try clear hb)))
        go_ret; exact ⟨by first | rfl | (simp [errW_none, errW_some] <;> rfl) | (simp [*, errW_none, errW_some] <;> rfl), bl⟩
end Go.Proofs.YtijoaohckgbneaaGreat.PAll
