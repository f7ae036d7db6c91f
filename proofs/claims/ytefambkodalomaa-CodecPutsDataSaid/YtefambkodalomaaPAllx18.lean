-- out of a driver of this session's prover over the kit's print: Lean checks it
import Derived.Test.YtefambkodalomaaPAllx0
import Derived.Test.YtefambkodalomaaPAllx5
import Derived.Test.YtefambkodalomaaPAllx13
import Derived.Test.YtefambkodalomaaPAllx15
import Derived.Test.YtefambkodalomaaPAllx16
import Derived.Test.YtefambkodalomaaPAllx17
namespace Go.Proofs.Ytefambkodalomaa.PAll
open Go.Proofs.YtefambkodalomaaG Go.Shelf Go.Lib
open Go.RowKit Go.Proofs.YtefambkodalomaaW.PrintWords Go.Proofs.YtefambkodalomaaW.PrintLast Go.Proofs.YtefambkodalomaaW.PrintMore
attribute [local go_sem] max2_int min2_int max_two min_two max_three min_three max_four min_four   -- for this text's walks alone
set_option linter.unusedVariables false
set_option linter.unusedSimpArgs false
mutual
def mapmakerref16_PutData.l0 : Nat → ByteArray → Int → List (S53) → List (S56) → List (S59) → Option (ByteArray)
 | 0, _, _, _, _, _ => none
 | k + 1, x3, x4, x544000, x544001, x544002 => if x4 < (x544000.length : Int) then (if 0 ≤ x4 then ((mapmakerref16_putNode.f k x3 ((rd_T53 x544000 x4).f0) ((rd_T53 x544000 x4).f1.f0) ((rd_T53 x544000 x4).f1.f1) ((rd_T53 x544000 x4).f2)).bind fun t546 => (mapmakerref16_PutData.l0 k t546 (wrap64 (x4 + 1)) x544000 x544001 x544002)) else (none)) else ((mapmakerref02_PutUint.f k x3 (IntKind.u64.wrap ((x544001.length : Int)))).bind fun t547 => (mapmakerref16_PutData.l1 k t547 0 x544000 x544001 x544002))
def mapmakerref16_PutData.l1 : Nat → ByteArray → Int → List (S53) → List (S56) → List (S59) → Option (ByteArray)
 | 0, _, _, _, _, _ => none
 | k + 1, x3, x5, x544000, x544001, x544002 => if x5 < (x544001.length : Int) then (if 0 ≤ x5 then ((mapmakerref16_putWay.f k x3 ((rd_T56 x544001 x5).f0) ((rd_T56 x544001 x5).f1) ((rd_T56 x544001 x5).f2)).bind fun t549 => (mapmakerref16_PutData.l1 k t549 (wrap64 (x5 + 1)) x544000 x544001 x544002)) else (none)) else ((mapmakerref02_PutUint.f k x3 (IntKind.u64.wrap ((x544002.length : Int)))).bind fun t550 => (mapmakerref16_PutData.l2 k t550 0 x544000 x544001 x544002))
def mapmakerref16_PutData.l2 : Nat → ByteArray → Int → List (S53) → List (S56) → List (S59) → Option (ByteArray)
 | 0, _, _, _, _, _ => none
 | k + 1, x3, x6, x544000, x544001, x544002 => if x6 < (x544002.length : Int) then (if 0 ≤ x6 then ((mapmakerref16_putRel.f k x3 ((rd_T59 x544002 x6).f0) ((rd_T59 x544002 x6).f1) ((rd_T59 x544002 x6).f2)).bind fun t552 => (mapmakerref16_PutData.l2 k t552 (wrap64 (x6 + 1)) x544000 x544001 x544002)) else (none)) else (some x3)
end
def mapmakerref16_PutData.f (k : Nat) (l0_0 : List (S53)) (l0_1 : List (S56)) (l0_2 : List (S59)) : Option (ByteArray) := (mapmakerref02_PutUint.f k (⟨#[]⟩ : ByteArray) (IntKind.u64.wrap ((l0_0.length : Int)))).bind fun t544 => (mapmakerref16_PutData.l0 k t544 0 l0_0 l0_1 l0_2)
theorem mapmakerref16_PutData.mono_l : ∀ k, (∀ y0 y1 y2 y3 y4, LeO (mapmakerref16_PutData.l0 k y0 y1 y2 y3 y4) (mapmakerref16_PutData.l0 (k + 1) y0 y1 y2 y3 y4)) ∧ (∀ y0 y1 y2 y3 y4, LeO (mapmakerref16_PutData.l1 k y0 y1 y2 y3 y4) (mapmakerref16_PutData.l1 (k + 1) y0 y1 y2 y3 y4)) ∧ (∀ y0 y1 y2 y3 y4, LeO (mapmakerref16_PutData.l2 k y0 y1 y2 y3 y4) (mapmakerref16_PutData.l2 (k + 1) y0 y1 y2 y3 y4))
 | 0 => ⟨fun _ _ _ _ _ r h => by simp [mapmakerref16_PutData.l0] at h, fun _ _ _ _ _ r h => by simp [mapmakerref16_PutData.l1] at h, fun _ _ _ _ _ r h => by simp [mapmakerref16_PutData.l2] at h⟩
 | k + 1 => by
  obtain ⟨ih0, ih1, ih2⟩ := mapmakerref16_PutData.mono_l k
  refine ⟨?_, ?_, ?_⟩
  ·intro y0 y1 y2 y3 y4
   unfold mapmakerref16_PutData.l0
   repeat' first
   | (with_reducible exact ih0 _ _ _ _ _)
   | (with_reducible exact ih1 _ _ _ _ _)
   | (with_reducible exact ih2 _ _ _ _ _)
   | (with_reducible exact mapmakerref02_PutUint.mono _ _ _)
   | (with_reducible exact mapmakerref16_putNode.mono _ _ _ _ _ _)
   | (with_reducible exact mapmakerref16_putRel.mono _ _ _ _ _)
   | (with_reducible exact mapmakerref16_putWay.mono _ _ _ _ _)
   | (with_reducible exact LeO.refl _)
   | (with_reducible exact LeO.none _)
   | (with_reducible refine LeO.ite ?_ ?_)
   | (with_reducible refine LeO.eB ?_ (fun _ => ?_))
   | (with_reducible refine LeO.bind ?_ (fun _ => ?_))
   | exact ih0 _ _ _ _ _
   | exact ih1 _ _ _ _ _
   | exact ih2 _ _ _ _ _
   | exact mapmakerref02_PutUint.mono _ _ _
   | exact mapmakerref16_putNode.mono _ _ _ _ _ _
   | exact mapmakerref16_putRel.mono _ _ _ _ _
   | exact mapmakerref16_putWay.mono _ _ _ _ _
   | exact LeO.none _
   | refine LeO.ite ?_ ?_
   | refine LeO.bind ?_ (fun _ => ?_)
  ·intro y0 y1 y2 y3 y4
   unfold mapmakerref16_PutData.l1
   repeat' first
   | (with_reducible exact ih0 _ _ _ _ _)
   | (with_reducible exact ih1 _ _ _ _ _)
   | (with_reducible exact ih2 _ _ _ _ _)
   | (with_reducible exact mapmakerref02_PutUint.mono _ _ _)
   | (with_reducible exact mapmakerref16_putNode.mono _ _ _ _ _ _)
   | (with_reducible exact mapmakerref16_putRel.mono _ _ _ _ _)
   | (with_reducible exact mapmakerref16_putWay.mono _ _ _ _ _)
   | (with_reducible exact LeO.refl _)
   | (with_reducible exact LeO.none _)
   | (with_reducible refine LeO.ite ?_ ?_)
   | (with_reducible refine LeO.eB ?_ (fun _ => ?_))
   | (with_reducible refine LeO.bind ?_ (fun _ => ?_))
   | exact ih0 _ _ _ _ _
   | exact ih1 _ _ _ _ _
   | exact ih2 _ _ _ _ _
   | exact mapmakerref02_PutUint.mono _ _ _
   | exact mapmakerref16_putNode.mono _ _ _ _ _ _
   | exact mapmakerref16_putRel.mono _ _ _ _ _
   | exact mapmakerref16_putWay.mono _ _ _ _ _
   | exact LeO.none _
   | refine LeO.ite ?_ ?_
   | refine LeO.bind ?_ (fun _ => ?_)
  ·intro y0 y1 y2 y3 y4
   unfold mapmakerref16_PutData.l2
   repeat' first
   | (with_reducible exact ih0 _ _ _ _ _)
   | (with_reducible exact ih1 _ _ _ _ _)
   | (with_reducible exact ih2 _ _ _ _ _)
   | (with_reducible exact mapmakerref02_PutUint.mono _ _ _)
   | (with_reducible exact mapmakerref16_putNode.mono _ _ _ _ _ _)
   | (with_reducible exact mapmakerref16_putRel.mono _ _ _ _ _)
   | (with_reducible exact mapmakerref16_putWay.mono _ _ _ _ _)
   | (with_reducible exact LeO.refl _)
   | (with_reducible exact LeO.none _)
   | (with_reducible refine LeO.ite ?_ ?_)
   | (with_reducible refine LeO.eB ?_ (fun _ => ?_))
   | (with_reducible refine LeO.bind ?_ (fun _ => ?_))
   | exact ih0 _ _ _ _ _
   | exact ih1 _ _ _ _ _
   | exact ih2 _ _ _ _ _
   | exact mapmakerref02_PutUint.mono _ _ _
   | exact mapmakerref16_putNode.mono _ _ _ _ _ _
   | exact mapmakerref16_putRel.mono _ _ _ _ _
   | exact mapmakerref16_putWay.mono _ _ _ _ _
   | exact LeO.none _
   | refine LeO.ite ?_ ?_
   | refine LeO.bind ?_ (fun _ => ?_)
theorem mapmakerref16_PutData.mono : ∀ a0 a1 a2 k, LeO (mapmakerref16_PutData.f k a0 a1 a2) (mapmakerref16_PutData.f (k + 1) a0 a1 a2) := by
 intro a0 a1 a2 k
 obtain ⟨ih0, ih1, ih2⟩ := mapmakerref16_PutData.mono_l k
 unfold mapmakerref16_PutData.f
 repeat' first
   | (with_reducible exact ih0 _ _ _ _ _)
   | (with_reducible exact ih1 _ _ _ _ _)
   | (with_reducible exact ih2 _ _ _ _ _)
   | (with_reducible exact mapmakerref02_PutUint.mono _ _ _)
   | (with_reducible exact mapmakerref16_putNode.mono _ _ _ _ _ _)
   | (with_reducible exact mapmakerref16_putRel.mono _ _ _ _ _)
   | (with_reducible exact mapmakerref16_putWay.mono _ _ _ _ _)
   | (with_reducible exact LeO.refl _)
   | (with_reducible exact LeO.none _)
   | (with_reducible refine LeO.ite ?_ ?_)
   | (with_reducible refine LeO.eB ?_ (fun _ => ?_))
   | (with_reducible refine LeO.bind ?_ (fun _ => ?_))
   | exact ih0 _ _ _ _ _
   | exact ih1 _ _ _ _ _
   | exact ih2 _ _ _ _ _
   | exact mapmakerref02_PutUint.mono _ _ _
   | exact mapmakerref16_putNode.mono _ _ _ _ _ _
   | exact mapmakerref16_putRel.mono _ _ _ _ _
   | exact mapmakerref16_putWay.mono _ _ _ _ _
   | exact LeO.none _
   | refine LeO.ite ?_ ?_
   | refine LeO.bind ?_ (fun _ => ?_)
set_option maxHeartbeats 8000000 in
set_option maxRecDepth 100000 in
theorem mapmakerref16_PutData.calls (k : Nat) (A0_0 : Option Addr) (c0_0 : Nat) (l0_0 : List (S53)) (A0_1 : Option Addr) (c0_1 : Nat) (l0_1 : List (S56)) (A0_2 : Option Addr) (c0_2 : Nat) (l0_2 : List (S59)) (r : ByteArray) (w : World) (hr0_0 : Kd.C k53 w A0_0 l0_0.length l0_0) (hc0_0 : l0_0.length ≤ c0_0) (hr0_1 : Kd.C k56 w A0_1 l0_1.length l0_1) (hc0_1 : l0_1.length ≤ c0_1) (hr0_2 : Kd.C k59 w A0_2 l0_2.length l0_2) (hc0_2 : l0_2.length ≤ c0_2) (h : mapmakerref16_PutData.f k l0_0 l0_1 l0_2 = some r) :
  Calls Try.prog 13 #[.agg #[.slice A0_0 l0_0.length c0_0, .slice A0_1 l0_1.length c0_1, .slice A0_2 l0_2.length c0_2]] w fun e w' => e = .returned (.string r) ∧ Below w.heap.size w w' := by
 have hu26 := Try.underlying26
 have hu53 := Try.underlying53
 have hu56 := Try.underlying56
 have hu59 := Try.underlying59
 have HR0_0 := aM hr0_0
 have HC0_0 := aM hc0_0
 clear hr0_0 hc0_0
 have HR0_1 := aM hr0_1
 have HC0_1 := aM hc0_1
 clear hr0_1 hc0_1
 have HR0_2 := aM hr0_2
 have HC0_2 := aM hc0_2
 clear hr0_2 hc0_2
 have HB := aM (Below.refl w.heap.size w)
 have H : ((mapmakerref02_PutUint.f k (⟨#[]⟩ : ByteArray) (IntKind.u64.wrap ((l0_0.length : Int)))).bind fun t544 => (mapmakerref16_PutData.l0 k t544 0 l0_0 l0_1 l0_2)) = some r := h
 clear h
 replace H := Option.bind_eq_some_iff.mp H
 obtain ⟨t544, A20, H⟩ := H
 try dsimp only at H
 have A2 := aM A20
 clear A20
 have H' := aM H
 clear H
 go_enter Try.func13, Try.ntmps13
 go_wp2_with (first | ((with_reducible refine gate_dst (N := 1) rfl ?_); refine bx (N := 1) (cs := #[.slice A0_0 l0_0.length c0_0, .slice A0_1 l0_1.length c0_1, .slice A0_2 l0_2.length c0_2]) (t := 26) ?_; intro gb543 hg w3 hbox hb; have n0_ := aM (bS (bl) hb); have n1_ := aM (hbox); have n3_ := aM (gw (w := w) hg); (try clear HB); have HB := n0_; have BK543 := n1_; have GE543 := n3_; clear n0_ n1_ n3_ hb hbox hg; obtain ⟨hcz4_0, hcz4_1, hcz4_2, hfz4_0, hfz4_1, hfz4_2⟩ := bc3 BK543) | ((with_reducible refine gate_callee (f := 31) rfl ?_); refine gL (some 11) Try.func31 #[.string (⟨#[]⟩ : ByteArray), .int .u64 (IntKind.u64.wrap ((l0_0.length : Int)))] ?_; (with_reducible refine (mapmakerref02_PutUint.calls k (⟨#[]⟩ : ByteArray) (IntKind.u64.wrap ((l0_0.length : Int))) t544 _ A2.out).mono ?_); rintro e w5 ⟨rfl, hb⟩; refine ⟨_, rfl, ?_⟩; replace BK543 := aM (kB (kl BK543) hb); replace HB := aM (bS (bl) hb); (try clear hb)))
 go_loopg [3, 4] k (fun kq v3 v4 w' => ∃ (x3_1 : ByteArray) (x4_1 : Int), v3 = .string x3_1 ∧ v4 = .int .i64 x4_1 ∧ Aside0 (mapmakerref16_PutData.l0 kq x3_1 x4_1 l0_0 l0_1 l0_2 = some r) ∧ Aside0 (kq ≤ k) ∧ Aside0 (w'.heap[gb543]? = some (.cells #[(.slice A0_0 l0_0.length c0_0), (.slice A0_1 l0_1.length c0_1), (.slice A0_2 l0_2.length c0_2)] 26 (0, 0))) ∧ Aside0 (Below w.heap.size w w'))
 case atStart => exact ⟨(t544), (0), (by first | rfl | (simp; done) | (simp [*]; done)), (by first | rfl | (simp; done) | (simp [*]; done)), H', ⟨Nat.le_refl _⟩, ⟨kl BK543⟩, ⟨bl⟩⟩
 case round =>
  clear H'
  try clear c1
  try clear p2
  try clear c3
  try clear hcz4_0 hcz4_1 hcz4_2 hfz4_0 hfz4_1 hfz4_2
  obtain ⟨x3_1, x4_1, rfl, rfl, HA, HK1, BK543, HB⟩ := hrel
  cases gk with
  | zero => exact absurd HA.out (by simp [mapmakerref16_PutData.l0])
  | succ k1 =>
   have H := HA.out
   clear HA
   simp only [mapmakerref16_PutData.l0] at H
   by_cases c6 : x4_1 < (l0_0.length : Int)
   ·rw [if_pos c6] at H
    have c6b0 : decide (x4_1 < (l0_0.length : Int)) = true := decide_eq_true c6
    clear c6
    by_cases c7 : 0 ≤ x4_1
    ·rw [if_pos c7] at H
     have c7b0 : decide (0 ≤ x4_1) = true := decide_eq_true c7
     clear c7
     replace H := Option.bind_eq_some_iff.mp H
     obtain ⟨t546, A80, H⟩ := H
     try dsimp only at H
     have A8 := aM A80
     clear A80
     have H' := aM H
     clear H
     obtain ⟨hcz9_0, hcz9_1, hcz9_2, hfz9_0, hfz9_1, hfz9_2⟩ := bc3 BK543
     have p545 : 0 ≤ (x4_1 : Int) := oT
     have q545 : x4_1 < (l0_0.length : Int) := oT
     obtain ⟨ad545, A545_3, c545_3, e545, hx545_0, hx545_1, hx545_2, hx545_3, hl545_3, hi545_3⟩ := at_T53 HR0_0.out x4_1 p545 q545
     cases e545
     replace hx545_0 := hs HB.out hx545_0
     replace hx545_1 := hs HB.out hx545_1
     replace hx545_2 := hs HB.out hx545_2
     replace hx545_3 := hs HB.out hx545_3
     have HR545_3 := aM hi545_3
     have HC545_3 := aM hl545_3
     clear hi545_3 hl545_3
     replace p545 := eq_true p545
     replace q545 := eq_true q545
     go_wp2_with (first | ((with_reducible refine gate_callee (f := 32) rfl ?_); refine gL (some 25) Try.func32 #[.string x3_1, .agg #[.int .i64 ((rd_T53 l0_0 x4_1).f0), .int .i64 ((rd_T53 l0_0 x4_1).f1.f0), .int .i64 ((rd_T53 l0_0 x4_1).f1.f1), .slice A545_3 ((rd_T53 l0_0 x4_1).f2).length c545_3]] ?_; (with_reducible refine (mapmakerref16_putNode.calls k1 x3_1 ((rd_T53 l0_0 x4_1).f0) ((rd_T53 l0_0 x4_1).f1.f0) ((rd_T53 l0_0 x4_1).f1.f1) _ _ ((rd_T53 l0_0 x4_1).f2) t546 _ ?side1 ?side2 A8.out).mono ?_); (case side1 => exact cl HR545_3); (case side2 => exact HC545_3.out); rintro e w10 ⟨rfl, hb⟩; refine ⟨_, rfl, ?_⟩; replace BK543 := aM (kB (kl BK543) hb); replace HB := aM (bS (bl) hb); (try clear hb)))
     go_roundg k1
     case measure => have := HK1.out; omega
     case rel => exact ⟨(t546), (wrap64 (x4_1 + 1)), (by first | rfl | (simp; done) | (simp [*]; done)), (by first | rfl | (simp; done) | (simp [*]; done)), H', ⟨by have := HK1.out; omega⟩, ⟨kl BK543⟩, ⟨bl⟩⟩
    ·rw [if_neg c7] at H
     exact absurd H (by simp)
   ·rw [if_neg c6] at H
    have c6b0 : decide (x4_1 < (l0_0.length : Int)) = false := decide_eq_false c6
    clear c6
    replace H := Option.bind_eq_some_iff.mp H
    obtain ⟨t547, A110, H⟩ := H
    try dsimp only at H
    have A11 := aM A110
    clear A110
    have H' := aM H
    clear H
    obtain ⟨hcz12_0, hcz12_1, hcz12_2, hfz12_0, hfz12_1, hfz12_2⟩ := bc3 BK543
    go_wp2_with (first | ((with_reducible refine gate_callee (f := 31) rfl ?_); refine gL (some 31) Try.func31 #[.string x3_1, .int .u64 (IntKind.u64.wrap ((l0_1.length : Int)))] ?_; (with_reducible refine (mapmakerref02_PutUint.calls k1 x3_1 (IntKind.u64.wrap ((l0_1.length : Int))) t547 _ A11.out).mono ?_); rintro e w13 ⟨rfl, hb⟩; refine ⟨_, rfl, ?_⟩; replace BK543 := aM (kB (kl BK543) hb); replace HB := aM (bS (bl) hb); (try clear hb)))
    go_loopg [3, 5] k1 (fun kq v3 v5 w' => ∃ (x3_2 : ByteArray) (x5_2 : Int), v3 = .string x3_2 ∧ v5 = .int .i64 x5_2 ∧ Aside0 (mapmakerref16_PutData.l1 kq x3_2 x5_2 l0_0 l0_1 l0_2 = some r) ∧ Aside0 (kq ≤ k1) ∧ Aside0 (w'.heap[gb543]? = some (.cells #[(.slice A0_0 l0_0.length c0_0), (.slice A0_1 l0_1.length c0_1), (.slice A0_2 l0_2.length c0_2)] 26 (0, 0))) ∧ Aside0 (Below w.heap.size w w'))
    case atStart => exact ⟨(t547), (0), (by first | rfl | (simp; done) | (simp [*]; done)), (by first | rfl | (simp; done) | (simp [*]; done)), H', ⟨Nat.le_refl _⟩, ⟨kl BK543⟩, ⟨bl⟩⟩
    case round =>
     clear H'
     try clear c1
     try clear p2
     try clear c3
     try clear c5
     try clear p5
     try clear q5
     try clear hx5
     try clear c6
     try clear c6b0
     try clear p6
     try clear c7
     try clear c7b0
     try clear c13
     try clear hcz12_0 hcz12_1 hcz12_2 hfz12_0 hfz12_1 hfz12_2
     try clear hcz4_0 hcz4_1 hcz4_2 hfz4_0 hfz4_1 hfz4_2
     try clear hcz9_0 hcz9_1 hcz9_2 hfz9_0 hfz9_1 hfz9_2
     try clear hx545_0
     try clear hx545_1
     try clear hx545_2
     try clear hx545_3
     try clear p2
     try clear p545
     try clear q545
     obtain ⟨x3_2, x5_2, rfl, rfl, HA, HK2, BK543, HB⟩ := hrel
     cases gk with
     | zero => exact absurd HA.out (by simp [mapmakerref16_PutData.l1])
     | succ k2 =>
      have H := HA.out
      clear HA
      simp only [mapmakerref16_PutData.l1] at H
      by_cases c14 : x5_2 < (l0_1.length : Int)
      ·rw [if_pos c14] at H
       have c14b0 : decide (x5_2 < (l0_1.length : Int)) = true := decide_eq_true c14
       clear c14
       by_cases c15 : 0 ≤ x5_2
       ·rw [if_pos c15] at H
        have c15b0 : decide (0 ≤ x5_2) = true := decide_eq_true c15
        clear c15
        replace H := Option.bind_eq_some_iff.mp H
        obtain ⟨t549, A160, H⟩ := H
        try dsimp only at H
        have A16 := aM A160
        clear A160
        have H' := aM H
        clear H
        obtain ⟨hcz17_0, hcz17_1, hcz17_2, hfz17_0, hfz17_1, hfz17_2⟩ := bc3 BK543
        have p548 : 0 ≤ (x5_2 : Int) := oT
        have q548 : x5_2 < (l0_1.length : Int) := oT
        obtain ⟨ad548, A548_1, c548_1, A548_2, c548_2, e548, hx548_0, hx548_1, hx548_2, hl548_1, hi548_1, hl548_2, hi548_2⟩ := at_T56 HR0_1.out x5_2 p548 q548
        cases e548
        replace hx548_0 := hs HB.out hx548_0
        replace hx548_1 := hs HB.out hx548_1
        replace hx548_2 := hs HB.out hx548_2
        have HR548_1 := aM hi548_1
        have HC548_1 := aM hl548_1
        clear hi548_1 hl548_1
        have HR548_2 := aM hi548_2
        have HC548_2 := aM hl548_2
        clear hi548_2 hl548_2
        replace p548 := eq_true p548
        replace q548 := eq_true q548
        go_wp2_with (first | ((with_reducible refine gate_callee (f := 33) rfl ?_); refine gL (some 45) Try.func33 #[.string x3_2, .agg #[.int .i64 ((rd_T56 l0_1 x5_2).f0), .slice A548_1 ((rd_T56 l0_1 x5_2).f1).length c548_1, .slice A548_2 ((rd_T56 l0_1 x5_2).f2).length c548_2]] ?_; (with_reducible refine (mapmakerref16_putWay.calls k2 x3_2 ((rd_T56 l0_1 x5_2).f0) _ _ ((rd_T56 l0_1 x5_2).f1) _ _ ((rd_T56 l0_1 x5_2).f2) t549 _ ?side1 ?side2 ?side3 ?side4 A16.out).mono ?_); (case side1 => exact cl HR548_1); (case side2 => exact HC548_1.out); (case side3 => exact cl HR548_2); (case side4 => exact HC548_2.out); rintro e w18 ⟨rfl, hb⟩; refine ⟨_, rfl, ?_⟩; replace BK543 := aM (kB (kl BK543) hb); replace HB := aM (bS (bl) hb); (try clear hb)))
        go_roundg k2
        case measure => have := HK1.out; have := HK2.out; omega
        case rel => exact ⟨(t549), (wrap64 (x5_2 + 1)), (by first | rfl | (simp; done) | (simp [*]; done)), (by first | rfl | (simp; done) | (simp [*]; done)), H', ⟨by have := HK1.out; have := HK2.out; omega⟩, ⟨kl BK543⟩, ⟨bl⟩⟩
       ·rw [if_neg c15] at H
        exact absurd H (by simp)
      ·rw [if_neg c14] at H
       have c14b0 : decide (x5_2 < (l0_1.length : Int)) = false := decide_eq_false c14
       clear c14
       replace H := Option.bind_eq_some_iff.mp H
       obtain ⟨t550, A190, H⟩ := H
       try dsimp only at H
       have A19 := aM A190
       clear A190
       have H' := aM H
       clear H
       obtain ⟨hcz20_0, hcz20_1, hcz20_2, hfz20_0, hfz20_1, hfz20_2⟩ := bc3 BK543
       go_wp2_with (first | ((with_reducible refine gate_callee (f := 31) rfl ?_); refine gL (some 51) Try.func31 #[.string x3_2, .int .u64 (IntKind.u64.wrap ((l0_2.length : Int)))] ?_; (with_reducible refine (mapmakerref02_PutUint.calls k2 x3_2 (IntKind.u64.wrap ((l0_2.length : Int))) t550 _ A19.out).mono ?_); rintro e w21 ⟨rfl, hb⟩; refine ⟨_, rfl, ?_⟩; replace BK543 := aM (kB (kl BK543) hb); replace HB := aM (bS (bl) hb); (try clear hb)))
       go_loopg [3, 6] k2 (fun kq v3 v6 w' => ∃ (x3_3 : ByteArray) (x6_3 : Int), v3 = .string x3_3 ∧ v6 = .int .i64 x6_3 ∧ Aside0 (mapmakerref16_PutData.l2 kq x3_3 x6_3 l0_0 l0_1 l0_2 = some r) ∧ Aside0 (kq ≤ k2) ∧ Aside0 (w'.heap[gb543]? = some (.cells #[(.slice A0_0 l0_0.length c0_0), (.slice A0_1 l0_1.length c0_1), (.slice A0_2 l0_2.length c0_2)] 26 (0, 0))) ∧ Aside0 (Below w.heap.size w w'))
       case atStart => exact ⟨(t550), (0), (by first | rfl | (simp; done) | (simp [*]; done)), (by first | rfl | (simp; done) | (simp [*]; done)), H', ⟨Nat.le_refl _⟩, ⟨kl BK543⟩, ⟨bl⟩⟩
       case round =>
        clear H'
        try clear c1
        try clear p2
        try clear c3
        try clear c5
        try clear p5
        try clear q5
        try clear hx5
        try clear c6
        try clear c6b0
        try clear p6
        try clear c7
        try clear c7b0
        try clear c13
        try clear c14
        try clear c14b0
        try clear c15
        try clear c15b0
        try clear hcz12_0 hcz12_1 hcz12_2 hfz12_0 hfz12_1 hfz12_2
        try clear hcz17_0 hcz17_1 hcz17_2 hfz17_0 hfz17_1 hfz17_2
        try clear hcz20_0 hcz20_1 hcz20_2 hfz20_0 hfz20_1 hfz20_2
        try clear hcz4_0 hcz4_1 hcz4_2 hfz4_0 hfz4_1 hfz4_2
        try clear hcz9_0 hcz9_1 hcz9_2 hfz9_0 hfz9_1 hfz9_2
        try clear hx545_0
        try clear hx545_1
        try clear hx545_2
        try clear hx545_3
        try clear hx548_0
        try clear hx548_1
        try clear hx548_2
        try clear p2
        try clear p5
        try clear p545
        try clear p548
        try clear p6
        try clear q5
        try clear q545
        try clear q548
        obtain ⟨x3_3, x6_3, rfl, rfl, HA, HK3, BK543, HB⟩ := hrel
        cases gk with
        | zero => exact absurd HA.out (by simp [mapmakerref16_PutData.l2])
        | succ k3 =>
         have H := HA.out
         clear HA
         simp only [mapmakerref16_PutData.l2] at H
         by_cases c22 : x6_3 < (l0_2.length : Int)
         ·rw [if_pos c22] at H
          have c22b0 : decide (x6_3 < (l0_2.length : Int)) = true := decide_eq_true c22
          clear c22
          by_cases c23 : 0 ≤ x6_3
          ·rw [if_pos c23] at H
           have c23b0 : decide (0 ≤ x6_3) = true := decide_eq_true c23
           clear c23
           replace H := Option.bind_eq_some_iff.mp H
           obtain ⟨t552, A240, H⟩ := H
           try dsimp only at H
           have A24 := aM A240
           clear A240
           have H' := aM H
           clear H
           obtain ⟨hcz25_0, hcz25_1, hcz25_2, hfz25_0, hfz25_1, hfz25_2⟩ := bc3 BK543
           have p551 : 0 ≤ (x6_3 : Int) := oT
           have q551 : x6_3 < (l0_2.length : Int) := oT
           obtain ⟨ad551, A551_1, c551_1, A551_2, c551_2, e551, hx551_0, hx551_1, hx551_2, hl551_1, hi551_1, hl551_2, hi551_2⟩ := at_T59 HR0_2.out x6_3 p551 q551
           cases e551
           replace hx551_0 := hs HB.out hx551_0
           replace hx551_1 := hs HB.out hx551_1
           replace hx551_2 := hs HB.out hx551_2
           have HR551_1 := aM hi551_1
           have HC551_1 := aM hl551_1
           clear hi551_1 hl551_1
           have HR551_2 := aM hi551_2
           have HC551_2 := aM hl551_2
           clear hi551_2 hl551_2
           replace p551 := eq_true p551
           replace q551 := eq_true q551
           go_wp2_with (first | ((with_reducible refine gate_callee (f := 34) rfl ?_); refine gL (some 65) Try.func34 #[.string x3_3, .agg #[.int .i64 ((rd_T59 l0_2 x6_3).f0), .slice A551_1 ((rd_T59 l0_2 x6_3).f1).length c551_1, .slice A551_2 ((rd_T59 l0_2 x6_3).f2).length c551_2]] ?_; (with_reducible refine (mapmakerref16_putRel.calls k3 x3_3 ((rd_T59 l0_2 x6_3).f0) _ _ ((rd_T59 l0_2 x6_3).f1) _ _ ((rd_T59 l0_2 x6_3).f2) t552 _ ?side1 ?side2 ?side3 ?side4 A24.out).mono ?_); (case side1 => exact cl HR551_1); (case side2 => exact HC551_1.out); (case side3 => exact cl HR551_2); (case side4 => exact HC551_2.out); rintro e w26 ⟨rfl, hb⟩; refine ⟨_, rfl, ?_⟩; replace BK543 := aM (kB (kl BK543) hb); replace HB := aM (bS (bl) hb); (try clear hb)))
           go_roundg k3
           case measure => have := HK1.out; have := HK2.out; have := HK3.out; omega
           case rel => exact ⟨(t552), (wrap64 (x6_3 + 1)), (by first | rfl | (simp; done) | (simp [*]; done)), (by first | rfl | (simp; done) | (simp [*]; done)), H', ⟨by have := HK1.out; have := HK2.out; have := HK3.out; omega⟩, ⟨kl BK543⟩, ⟨bl⟩⟩
          ·rw [if_neg c23] at H
           exact absurd H (by simp)
         ·rw [if_neg c22] at H
          have c22b0 : decide (x6_3 < (l0_2.length : Int)) = false := decide_eq_false c22
          clear c22
          obtain rfl := Option.some.inj H
          obtain ⟨hcz27_0, hcz27_1, hcz27_2, hfz27_0, hfz27_1, hfz27_2⟩ := bc3 BK543
          go_wp2
          go_ret
          exact ⟨by first | rfl | (simp [errW_none, errW_some] <;> rfl) | (simp [*, errW_none, errW_some] <;> rfl), bl⟩
def mapmakerlaw16_CodecPutsData.f (k : Nat) (l0_0 : List (S53)) (l0_1 : List (S56)) (l0_2 : List (S59)) : Option (Bool) := (mapmakerlaw19_Few.f k l0_0 l0_1 l0_2).bind fun t554 => (if t554 = true then ((codec_PutData.f k l0_0 l0_1 l0_2).bind fun t555 => ((mapmakerref16_PutData.f k l0_0 l0_1 l0_2).bind fun t556 => (if t555.toList = t556.toList then ((mapmakerlaw16_lives.f k).bind fun t557 => (some t557)) else (some false)))) else ((mapmakerlaw16_lives.f k).bind fun t558 => (some t558)))
theorem mapmakerlaw16_CodecPutsData.mono : ∀ a0 a1 a2 k, LeO (mapmakerlaw16_CodecPutsData.f k a0 a1 a2) (mapmakerlaw16_CodecPutsData.f (k + 1) a0 a1 a2) := by
 intro a0 a1 a2 k
 unfold mapmakerlaw16_CodecPutsData.f
 repeat' first
   | (with_reducible exact codec_PutData.mono _ _ _ _)
   | (with_reducible exact mapmakerlaw16_lives.mono _)
   | (with_reducible exact mapmakerlaw19_Few.mono _ _ _ _)
   | (with_reducible exact mapmakerref16_PutData.mono _ _ _ _)
   | (with_reducible exact LeO.refl _)
   | (with_reducible exact LeO.none _)
   | (with_reducible refine LeO.ite ?_ ?_)
   | (with_reducible refine LeO.eB ?_ (fun _ => ?_))
   | (with_reducible refine LeO.bind ?_ (fun _ => ?_))
   | exact codec_PutData.mono _ _ _ _
   | exact mapmakerlaw16_lives.mono _
   | exact mapmakerlaw19_Few.mono _ _ _ _
   | exact mapmakerref16_PutData.mono _ _ _ _
   | exact LeO.none _
   | refine LeO.ite ?_ ?_
   | refine LeO.bind ?_ (fun _ => ?_)
def mapmakerlaw16_CodecPutsData.T3 : Bool × List (List Nat × List Nat) := (true, [([], []), ([0], [0]), ([], []), ([2, 1], [2]), ([1, 3], [1, 3]), ([4, 3], [4]), ([5, 5], [5]), ([5, 6], [5, 6]), ([7, 6, 0, 1, 2, 3, 4, 5, 6, 7], [7])])
def mapmakerlaw16_CodecPutsData.B3 : List Nat := [0, 1, 0, 7, 15, 31, 63, 127, 255]
theorem mapmakerlaw16_CodecPutsData.tab3 : rtab .any (opsOf Try.f3 3) = mapmakerlaw16_CodecPutsData.T3 := by kernel_rfl
theorem mapmakerlaw16_CodecPutsData.bits3 : waitsOk mapmakerlaw16_CodecPutsData.T3.2 mapmakerlaw16_CodecPutsData.B3 = true := by kernel_rfl
set_option maxHeartbeats 8000000 in
set_option maxRecDepth 100000 in
theorem mapmakerlaw16_CodecPutsData.calls (k : Nat) (A0_0 : Option Addr) (c0_0 : Nat) (l0_0 : List (S53)) (A0_1 : Option Addr) (c0_1 : Nat) (l0_1 : List (S56)) (A0_2 : Option Addr) (c0_2 : Nat) (l0_2 : List (S59)) (r : Bool) (w : World) (hr0_0 : Kd.C k53 w A0_0 l0_0.length l0_0) (hc0_0 : l0_0.length ≤ c0_0) (hr0_1 : Kd.C k56 w A0_1 l0_1.length l0_1) (hc0_1 : l0_1.length ≤ c0_1) (hr0_2 : Kd.C k59 w A0_2 l0_2.length l0_2) (hc0_2 : l0_2.length ≤ c0_2) (h : mapmakerlaw16_CodecPutsData.f k l0_0 l0_1 l0_2 = some r) :
  Calls Try.prog 3 #[.agg #[.slice A0_0 l0_0.length c0_0, .slice A0_1 l0_1.length c0_1, .slice A0_2 l0_2.length c0_2]] w fun e w' => e = .returned (.bool r) ∧ Below w.heap.size w w' := by
 have hu26 := Try.underlying26
 have HR0_0 := aM hr0_0
 have HC0_0 := aM hc0_0
 clear hr0_0 hc0_0
 have HR0_1 := aM hr0_1
 have HC0_1 := aM hc0_1
 clear hr0_1 hc0_1
 have HR0_2 := aM hr0_2
 have HC0_2 := aM hc0_2
 clear hr0_2 hc0_2
 have HB := aM (Below.refl w.heap.size w)
 have H : ((mapmakerlaw19_Few.f k l0_0 l0_1 l0_2).bind fun t554 => (if t554 = true then ((codec_PutData.f k l0_0 l0_1 l0_2).bind fun t555 => ((mapmakerref16_PutData.f k l0_0 l0_1 l0_2).bind fun t556 => (if t555.toList = t556.toList then ((mapmakerlaw16_lives.f k).bind fun t557 => (some t557)) else (some false)))) else ((mapmakerlaw16_lives.f k).bind fun t558 => (some t558)))) = some r := h
 clear h
 replace H := Option.bind_eq_some_iff.mp H
 obtain ⟨t554, A20, H⟩ := H
 try dsimp only at H
 have A2 := aM A20
 clear A20
 by_cases c3 : t554 = true
 ·subst c3
  have H1 : ((codec_PutData.f k l0_0 l0_1 l0_2).bind fun t555 => ((mapmakerref16_PutData.f k l0_0 l0_1 l0_2).bind fun t556 => (if t555.toList = t556.toList then ((mapmakerlaw16_lives.f k).bind fun t557 => (some t557)) else (some false)))) = some r := by rw [if_pos rfl] at H; exact H
  clear H
  have H := H1
  clear H1
  replace H := Option.bind_eq_some_iff.mp H
  obtain ⟨t555, A40, H⟩ := H
  try dsimp only at H
  have A4 := aM A40
  clear A40
  replace H := Option.bind_eq_some_iff.mp H
  obtain ⟨t556, A50, H⟩ := H
  try dsimp only at H
  have A5 := aM A50
  clear A50
  by_cases c6 : t555.toList = t556.toList
  ·rw [if_pos c6] at H
   have c6b0 : (t555.toList == t556.toList) = true := beq_iff_eq.mpr c6
   have c6b1 : (t555.toList != t556.toList) = false := bne_eq_false_iff_eq.mpr c6
   clear c6
   replace H := Option.bind_eq_some_iff.mp H
   obtain ⟨t557, A70, H⟩ := H
   try dsimp only at H
   have A7 := aM A70
   clear A70
   obtain rfl := Option.some.inj H
   go_enter Try.func3, Try.ntmps3
   try go_wp2_with (first | ((with_reducible refine gate_dst (N := 1) rfl ?_); refine bx (N := 1) (cs := #[.slice A0_0 l0_0.length c0_0, .slice A0_1 l0_1.length c0_1, .slice A0_2 l0_2.length c0_2]) (t := 26) ?_; intro gb553 hg w8 hbox hb; have n0_ := aM (bS (bl) hb); have n1_ := aM (hbox); have n3_ := aM (gw (w := w) hg); (try clear HB); have HB := n0_; have BK553 := n1_; have GE553 := n3_; clear n0_ n1_ n3_ hb hbox hg; obtain ⟨hcz9_0, hcz9_1, hcz9_2, hfz9_0, hfz9_1, hfz9_2⟩ := bc3 BK553) | ((with_reducible refine gate_callee (f := 10) rfl ?_); refine gL (some 4) Try.func10 #[.agg #[.slice A0_0 l0_0.length c0_0, .slice A0_1 l0_1.length c0_1, .slice A0_2 l0_2.length c0_2]] ?_; (with_reducible refine (mapmakerlaw19_Few.calls k _ _ l0_0 _ _ l0_1 _ _ l0_2 true _ ?side1 ?side2 ?side3 ?side4 ?side5 ?side6 A2.out).mono ?_); (case side1 => exact cl HR0_0); (case side2 => exact HC0_0.out); (case side3 => exact cl HR0_1); (case side4 => exact HC0_1.out); (case side5 => exact cl HR0_2); (case side6 => exact HC0_2.out); rintro e w10 ⟨rfl, hb⟩; refine ⟨_, rfl, ?_⟩; replace BK553 := aM (kB (kl BK553) hb); replace HB := aM (bS (bl) hb); (try clear hb)))
   replace BK553 := aM (kD BK553.out)
   replace HB := aM (bD HB.out)
   refine start_ (n := 9) (S := fun w' => w'.cell? ⟨gb553, 0, none⟩ = some (.slice A0_0 l0_0.length c0_0) ∧ w'.cell? ⟨gb553, 1, none⟩ = some (.slice A0_1 l0_1.length c0_1) ∧ w'.cell? ⟨gb553, 2, none⟩ = some (.slice A0_2 l0_2.length c0_2)) (ds := []) #[false, false, false, false, false, false, false, false, false] (by kernel_rfl) rfl rfl ⟨(kC BK553.out 0).trans rfl, (kC BK553.out 1).trans rfl, (kC BK553.out 2).trans rfl⟩ (fun hHeld => ?_); refine with_tabW mapmakerlaw16_CodecPutsData.tab3 mapmakerlaw16_CodecPutsData.bits3 (fun HT_ HW_ => ?_)
   generalize w10.drew = w11 at BK553 HB hHeld ⊢
   refine take_ (i := 0) (N := some 7) (v := ?_) (a' := ?_) (ba 9 1) rfl rfl (take_ofW HT_.out HW_.out (by kernel_rfl)) (fun _ _ _ h => h) (Or.inl ⟨by rfl, ?_⟩) hHeld ?_ ?_
   rotate_left
   ·rintro w' ⟨s0, s1, s2⟩
    go_simp
    with_reducible rfl
   rotate_left
   ·simp only [Act.put, sA, sB, sC, i64_w, i32_w]
    rfl
   refine take_ (i := 2) (N := some 9) (v := ?_) (a' := ?_) (ba 9 5) rfl rfl (take_ofW HT_.out HW_.out (by kernel_rfl)) (fun _ _ _ h => h) (Or.inl ⟨by rfl, ?_⟩) hHeld ?_ ?_
   rotate_left
   ·rintro w' ⟨s0, s1, s2⟩
    go_simp
    with_reducible rfl
   rotate_left
   ·simp only [Act.put, sA, sB, sC, i64_w, i32_w]
    rfl
   refine one_ (i := 1) (N := some 8) (ba 9 7) rfl rfl (one_of HT_.out (by kernel_rfl)) (by decide) (fun K hK => ?_)
   refine goes_ Try.func12 (by kernel_rfl) rfl #[.agg #[.slice A0_0 l0_0.length c0_0, .slice A0_1 l0_1.length c0_1, .slice A0_2 l0_2.length c0_2]] (by rfl) rfl rfl (by (try simp only [List.map_toArray, List.map_cons, List.map_nil]); first | done | rfl | (simp only [List.length_drop, List.length_take]; rfl)) ?_
   with_reducible refine (codec_PutData.calls k _ _ l0_0 _ _ l0_1 _ _ l0_2 t555 _ ?side1 ?side2 ?side3 ?side4 ?side5 ?side6 A4.out).mono ?_
   (case side1 => exact cl HR0_0)
   (case side2 => exact HC0_0.out)
   (case side3 => exact cl HR0_1)
   (case side4 => exact HC0_1.out)
   (case side5 => exact cl HR0_2)
   (case side6 => exact HC0_2.out)
   rintro e w12 ⟨rfl, hb⟩
   refine ⟨_, rfl, ?_⟩
   replace BK553 := aM (kB (kl BK553) hb)
   replace HB := aM (bS (bl) hb)
   (try clear hb)
   (try clear hb2)
   (try clear hk)
   (try clear hi)
   refine hK.out _ _ ⟨(kC BK553.out 0).trans rfl, (kC BK553.out 1).trans rfl, (kC BK553.out 2).trans rfl⟩ (fun hHeld => ?_)
   clear hK K
   refine norm_ (a' := ?_) ?_ ?_
   rotate_left
   ·show Act.put _ (some 8) _ = _
    simp only [Act.put, sA, sB, sC, i64_w, i32_w]
    rfl
   refine one_ (i := 3) (N := some 10) (ba 9 15) rfl rfl (one_of HT_.out (by kernel_rfl)) (by decide) (fun K hK => ?_)
   refine goes_ Try.func13 (by kernel_rfl) rfl #[.agg #[.slice A0_0 l0_0.length c0_0, .slice A0_1 l0_1.length c0_1, .slice A0_2 l0_2.length c0_2]] (by rfl) rfl rfl (by (try simp only [List.map_toArray, List.map_cons, List.map_nil]); first | done | rfl | (simp only [List.length_drop, List.length_take]; rfl)) ?_
   with_reducible refine (mapmakerref16_PutData.calls k _ _ l0_0 _ _ l0_1 _ _ l0_2 t556 _ ?side1 ?side2 ?side3 ?side4 ?side5 ?side6 A5.out).mono ?_
   (case side1 => exact cl HR0_0)
   (case side2 => exact HC0_0.out)
   (case side3 => exact cl HR0_1)
   (case side4 => exact HC0_1.out)
   (case side5 => exact cl HR0_2)
   (case side6 => exact HC0_2.out)
   rintro e w13 ⟨rfl, hb⟩
   refine ⟨_, rfl, ?_⟩
   replace BK553 := aM (kB (kl BK553) hb)
   replace HB := aM (bS (bl) hb)
   (try clear hb)
   (try clear hb2)
   (try clear hk)
   (try clear hi)
   refine hK.out _ _ ⟨(kC BK553.out 0).trans rfl, (kC BK553.out 1).trans rfl, (kC BK553.out 2).trans rfl⟩ (fun hHeld => ?_)
   clear hK K
   refine norm_ (a' := ?_) ?_ ?_
   rotate_left
   ·show Act.put _ (some 10) _ = _
    simp only [Act.put, sA, sB, sC, i64_w, i32_w]
    rfl
   refine pure_ (i := 4) (N := some 11) (v := ?_) (a' := ?_) (ba 9 31) rfl rfl (any_of HT_.out (by kernel_rfl)) (fun _ _ _ h => h) (Or.inl ⟨by rfl, ?_⟩) ?_ ?_
   rotate_left
   ·intro w'
    go_simp
    with_reducible rfl
   rotate_left
   ·simp only [Act.put, sA, sB, sC, i64_w, i32_w]
    rfl
   refine pure_ (i := 5) (N := some 12) (v := ?_) (a' := ?_) (ba 9 63) rfl rfl (any_of HT_.out (by kernel_rfl)) (fun _ _ _ h => h) (Or.inl ⟨by rfl, ?_⟩) ?_ ?_
   rotate_left
   ·intro w'
    go_simp
    with_reducible rfl
   rotate_left
   ·simp only [Act.put, sA, sB, sC, i64_w, i32_w]
    rfl
   refine one_ (i := 6) (N := some 13) (ba 9 127) rfl rfl (one_of HT_.out (by kernel_rfl)) (by decide) (fun K hK => ?_)
   refine goes_ Try.func11 (by kernel_rfl) rfl #[] (by rfl) rfl rfl (by (try simp only [List.map_toArray, List.map_cons, List.map_nil]); first | done | rfl | (simp only [List.length_drop, List.length_take]; rfl)) ?_
   with_reducible refine (mapmakerlaw16_lives.calls k  t557 _ A7.out).mono ?_
   rintro e w14 ⟨rfl, hb⟩
   refine ⟨_, rfl, ?_⟩
   replace BK553 := aM (kB (kl BK553) hb)
   replace HB := aM (bS (bl) hb)
   (try clear hb)
   (try clear hb2)
   (try clear hk)
   (try clear hi)
   refine hK.out _ _ ⟨(kC BK553.out 0).trans rfl, (kC BK553.out 1).trans rfl, (kC BK553.out 2).trans rfl⟩ (fun hHeld => ?_)
   clear hK K
   refine norm_ (a' := ?_) ?_ ?_
   rotate_left
   ·show Act.put _ (some 13) _ = _
    simp only [Act.put, sA, sB, sC, i64_w, i32_w]
    rfl
   refine pure_ (i := 7) (N := some 14) (v := ?_) (a' := ?_) (ba 9 255) rfl rfl (any_of HT_.out (by kernel_rfl)) (fun _ _ _ h => h) (Or.inl ⟨by rfl, ?_⟩) ?_ ?_
   rotate_left
   ·intro w'
    go_simp
    with_reducible rfl
   rotate_left
   ·simp only [Act.put, sA, sB, sC, i64_w, i32_w]
    rfl
   refine pure_ (i := 8) (N := some 2) (v := ?_) (a' := ?_) (ba 9 511) rfl rfl (any_of HT_.out (by kernel_rfl)) (fun _ _ _ h => h) (Or.inl ⟨by rfl, ?_⟩) ?_ ?_
   rotate_left
   ·intro w'
    go_simp
    with_reducible rfl
   rotate_left
   ·simp only [Act.put, sA, sB, sC, i64_w, i32_w]
    rfl
   refine done_ (done_of HT_.out (by kernel_rfl)) ?_
   try go_wp2
   go_ret
   exact ⟨by first | rfl | (simp [errW_none, errW_some] <;> rfl) | (simp [*, errW_none, errW_some] <;> rfl), bl⟩
  ·rw [if_neg c6] at H
   have c6b0 : (t555.toList == t556.toList) = false := beq_eq_false_iff_ne.mpr c6
   have c6b1 : (t555.toList != t556.toList) = true := bne_iff_ne.mpr c6
   obtain rfl := Option.some.inj H
   go_enter Try.func3, Try.ntmps3
   try go_wp2_with (first | ((with_reducible refine gate_dst (N := 1) rfl ?_); refine bx (N := 1) (cs := #[.slice A0_0 l0_0.length c0_0, .slice A0_1 l0_1.length c0_1, .slice A0_2 l0_2.length c0_2]) (t := 26) ?_; intro gb553 hg w15 hbox hb; have n0_ := aM (bS (bl) hb); have n1_ := aM (hbox); have n3_ := aM (gw (w := w) hg); (try clear HB); have HB := n0_; have BK553 := n1_; have GE553 := n3_; clear n0_ n1_ n3_ hb hbox hg; obtain ⟨hcz16_0, hcz16_1, hcz16_2, hfz16_0, hfz16_1, hfz16_2⟩ := bc3 BK553) | ((with_reducible refine gate_callee (f := 10) rfl ?_); refine gL (some 4) Try.func10 #[.agg #[.slice A0_0 l0_0.length c0_0, .slice A0_1 l0_1.length c0_1, .slice A0_2 l0_2.length c0_2]] ?_; (with_reducible refine (mapmakerlaw19_Few.calls k _ _ l0_0 _ _ l0_1 _ _ l0_2 true _ ?side1 ?side2 ?side3 ?side4 ?side5 ?side6 A2.out).mono ?_); (case side1 => exact cl HR0_0); (case side2 => exact HC0_0.out); (case side3 => exact cl HR0_1); (case side4 => exact HC0_1.out); (case side5 => exact cl HR0_2); (case side6 => exact HC0_2.out); rintro e w17 ⟨rfl, hb⟩; refine ⟨_, rfl, ?_⟩; replace BK553 := aM (kB (kl BK553) hb); replace HB := aM (bS (bl) hb); (try clear hb)))
   replace BK553 := aM (kD BK553.out)
   replace HB := aM (bD HB.out)
   refine start_ (n := 9) (S := fun w' => w'.cell? ⟨gb553, 0, none⟩ = some (.slice A0_0 l0_0.length c0_0) ∧ w'.cell? ⟨gb553, 1, none⟩ = some (.slice A0_1 l0_1.length c0_1) ∧ w'.cell? ⟨gb553, 2, none⟩ = some (.slice A0_2 l0_2.length c0_2)) (ds := []) #[false, false, false, false, false, false, false, false, false] (by kernel_rfl) rfl rfl ⟨(kC BK553.out 0).trans rfl, (kC BK553.out 1).trans rfl, (kC BK553.out 2).trans rfl⟩ (fun hHeld => ?_); refine with_tabW mapmakerlaw16_CodecPutsData.tab3 mapmakerlaw16_CodecPutsData.bits3 (fun HT_ HW_ => ?_)
   generalize w17.drew = w18 at BK553 HB hHeld ⊢
   refine take_ (i := 0) (N := some 7) (v := ?_) (a' := ?_) (ba 9 1) rfl rfl (take_ofW HT_.out HW_.out (by kernel_rfl)) (fun _ _ _ h => h) (Or.inl ⟨by rfl, ?_⟩) hHeld ?_ ?_
   rotate_left
   ·rintro w' ⟨s0, s1, s2⟩
    go_simp
    with_reducible rfl
   rotate_left
   ·simp only [Act.put, sA, sB, sC, i64_w, i32_w]
    rfl
   refine take_ (i := 2) (N := some 9) (v := ?_) (a' := ?_) (ba 9 5) rfl rfl (take_ofW HT_.out HW_.out (by kernel_rfl)) (fun _ _ _ h => h) (Or.inl ⟨by rfl, ?_⟩) hHeld ?_ ?_
   rotate_left
   ·rintro w' ⟨s0, s1, s2⟩
    go_simp
    with_reducible rfl
   rotate_left
   ·simp only [Act.put, sA, sB, sC, i64_w, i32_w]
    rfl
   refine one_ (i := 1) (N := some 8) (ba 9 7) rfl rfl (one_of HT_.out (by kernel_rfl)) (by decide) (fun K hK => ?_)
   refine goes_ Try.func12 (by kernel_rfl) rfl #[.agg #[.slice A0_0 l0_0.length c0_0, .slice A0_1 l0_1.length c0_1, .slice A0_2 l0_2.length c0_2]] (by rfl) rfl rfl (by (try simp only [List.map_toArray, List.map_cons, List.map_nil]); first | done | rfl | (simp only [List.length_drop, List.length_take]; rfl)) ?_
   with_reducible refine (codec_PutData.calls k _ _ l0_0 _ _ l0_1 _ _ l0_2 t555 _ ?side1 ?side2 ?side3 ?side4 ?side5 ?side6 A4.out).mono ?_
   (case side1 => exact cl HR0_0)
   (case side2 => exact HC0_0.out)
   (case side3 => exact cl HR0_1)
   (case side4 => exact HC0_1.out)
   (case side5 => exact cl HR0_2)
   (case side6 => exact HC0_2.out)
   rintro e w19 ⟨rfl, hb⟩
   refine ⟨_, rfl, ?_⟩
   replace BK553 := aM (kB (kl BK553) hb)
   replace HB := aM (bS (bl) hb)
   (try clear hb)
   (try clear hb2)
   (try clear hk)
   (try clear hi)
   refine hK.out _ _ ⟨(kC BK553.out 0).trans rfl, (kC BK553.out 1).trans rfl, (kC BK553.out 2).trans rfl⟩ (fun hHeld => ?_)
   clear hK K
   refine norm_ (a' := ?_) ?_ ?_
   rotate_left
   ·show Act.put _ (some 8) _ = _
    simp only [Act.put, sA, sB, sC, i64_w, i32_w]
    rfl
   refine one_ (i := 3) (N := some 10) (ba 9 15) rfl rfl (one_of HT_.out (by kernel_rfl)) (by decide) (fun K hK => ?_)
   refine goes_ Try.func13 (by kernel_rfl) rfl #[.agg #[.slice A0_0 l0_0.length c0_0, .slice A0_1 l0_1.length c0_1, .slice A0_2 l0_2.length c0_2]] (by rfl) rfl rfl (by (try simp only [List.map_toArray, List.map_cons, List.map_nil]); first | done | rfl | (simp only [List.length_drop, List.length_take]; rfl)) ?_
   with_reducible refine (mapmakerref16_PutData.calls k _ _ l0_0 _ _ l0_1 _ _ l0_2 t556 _ ?side1 ?side2 ?side3 ?side4 ?side5 ?side6 A5.out).mono ?_
   (case side1 => exact cl HR0_0)
   (case side2 => exact HC0_0.out)
   (case side3 => exact cl HR0_1)
   (case side4 => exact HC0_1.out)
   (case side5 => exact cl HR0_2)
   (case side6 => exact HC0_2.out)
   rintro e w20 ⟨rfl, hb⟩
   refine ⟨_, rfl, ?_⟩
   replace BK553 := aM (kB (kl BK553) hb)
   replace HB := aM (bS (bl) hb)
   (try clear hb)
   (try clear hb2)
   (try clear hk)
   (try clear hi)
   refine hK.out _ _ ⟨(kC BK553.out 0).trans rfl, (kC BK553.out 1).trans rfl, (kC BK553.out 2).trans rfl⟩ (fun hHeld => ?_)
   clear hK K
   refine norm_ (a' := ?_) ?_ ?_
   rotate_left
   ·show Act.put _ (some 10) _ = _
    simp only [Act.put, sA, sB, sC, i64_w, i32_w]
    rfl
   refine pure_ (i := 4) (N := some 11) (v := ?_) (a' := ?_) (ba 9 31) rfl rfl (any_of HT_.out (by kernel_rfl)) (fun _ _ _ h => h) (Or.inl ⟨by rfl, ?_⟩) ?_ ?_
   rotate_left
   ·intro w'
    go_simp
    with_reducible rfl
   rotate_left
   ·simp only [Act.put, sA, sB, sC, i64_w, i32_w]
    rfl
   refine pure_ (i := 5) (N := some 12) (v := ?_) (a' := ?_) (ba 9 63) rfl rfl (any_of HT_.out (by kernel_rfl)) (fun _ _ _ h => h) (Or.inl ⟨by rfl, ?_⟩) ?_ ?_
   rotate_left
   ·intro w'
    go_simp
    with_reducible rfl
   rotate_left
   ·simp only [Act.put, sA, sB, sC, i64_w, i32_w]
    rfl
   refine pure_ (i := 6) (N := some 13) (v := undef) (a' := ?_) (ba 9 127) rfl rfl (any_of HT_.out (by kernel_rfl)) (fun _ _ _ h => h) (Or.inr ⟨by rfl, rfl⟩) ?_ ?_
   rotate_left
   ·simp only [Act.put, sA, sB, sC, i64_w, i32_w]
    rfl
   refine pure_ (i := 7) (N := some 14) (v := ?_) (a' := ?_) (ba 9 255) rfl rfl (any_of HT_.out (by kernel_rfl)) (fun _ _ _ h => h) (Or.inl ⟨by rfl, ?_⟩) ?_ ?_
   rotate_left
   ·intro w'
    go_simp
    with_reducible rfl
   rotate_left
   ·simp only [Act.put, sA, sB, sC, i64_w, i32_w]
    rfl
   refine pure_ (i := 8) (N := some 2) (v := ?_) (a' := ?_) (ba 9 511) rfl rfl (any_of HT_.out (by kernel_rfl)) (fun _ _ _ h => h) (Or.inl ⟨by rfl, ?_⟩) ?_ ?_
   rotate_left
   ·intro w'
    go_simp
    with_reducible rfl
   rotate_left
   ·simp only [Act.put, sA, sB, sC, i64_w, i32_w]
    rfl
   refine done_ (done_of HT_.out (by kernel_rfl)) ?_
   try go_wp2
   go_ret
   exact ⟨by first | rfl | (simp [errW_none, errW_some] <;> rfl) | (simp [*, errW_none, errW_some] <;> rfl), bl⟩
 ·replace c3 := Bool.eq_false_iff.mpr c3
  subst c3
  have H1 : ((mapmakerlaw16_lives.f k).bind fun t558 => (some t558)) = some r := by rw [if_neg (show ¬ (false = true) by decide)] at H; exact H
  clear H
  have H := H1
  clear H1
  replace H := Option.bind_eq_some_iff.mp H
  obtain ⟨t558, A210, H⟩ := H
  try dsimp only at H
  have A21 := aM A210
  clear A210
  obtain rfl := Option.some.inj H
  go_enter Try.func3, Try.ntmps3
  go_wp2_with (first | ((with_reducible refine gate_dst (N := 1) rfl ?_); refine bx (N := 1) (cs := #[.slice A0_0 l0_0.length c0_0, .slice A0_1 l0_1.length c0_1, .slice A0_2 l0_2.length c0_2]) (t := 26) ?_; intro gb553 hg w22 hbox hb; have n0_ := aM (bS (bl) hb); have n1_ := aM (hbox); have n3_ := aM (gw (w := w) hg); (try clear HB); have HB := n0_; have BK553 := n1_; have GE553 := n3_; clear n0_ n1_ n3_ hb hbox hg; obtain ⟨hcz23_0, hcz23_1, hcz23_2, hfz23_0, hfz23_1, hfz23_2⟩ := bc3 BK553) | ((with_reducible refine gate_callee (f := 10) rfl ?_); refine gL (some 4) Try.func10 #[.agg #[.slice A0_0 l0_0.length c0_0, .slice A0_1 l0_1.length c0_1, .slice A0_2 l0_2.length c0_2]] ?_; (with_reducible refine (mapmakerlaw19_Few.calls k _ _ l0_0 _ _ l0_1 _ _ l0_2 false _ ?side1 ?side2 ?side3 ?side4 ?side5 ?side6 A2.out).mono ?_); (case side1 => exact cl HR0_0); (case side2 => exact HC0_0.out); (case side3 => exact cl HR0_1); (case side4 => exact HC0_1.out); (case side5 => exact cl HR0_2); (case side6 => exact HC0_2.out); rintro e w24 ⟨rfl, hb⟩; refine ⟨_, rfl, ?_⟩; replace BK553 := aM (kB (kl BK553) hb); replace HB := aM (bS (bl) hb); (try clear hb)) | ((with_reducible refine gate_callee (f := 11) rfl ?_); refine gL (some 6) Try.func11 #[] ?_; (with_reducible refine (mapmakerlaw16_lives.calls k  t558 _ A21.out).mono ?_); rintro e w25 ⟨rfl, hb⟩; refine ⟨_, rfl, ?_⟩; replace BK553 := aM (kB (kl BK553) hb); replace HB := aM (bS (bl) hb); (try clear hb)))
  go_ret
  exact ⟨by first | rfl | (simp [errW_none, errW_some] <;> rfl) | (simp [*, errW_none, errW_some] <;> rfl), bl⟩
def wf50 (x : S50) : Prop := (Lit.int .i64 x.f0).wf = true ∧ (Lit.int .i64 x.f1).wf = true
set_option maxRecDepth 100000 in
theorem opens50 : Opens Try.prog 50 k50 wf50 := by
 refine Opens.iso (d := (Kd.pair (Kd.int .i64) (Kd.int .i64))) (W := fun x => (Lit.int .i64 x.1).wf = true ∧ (Lit.int .i64 x.2).wf = true) (f := fun x : S50 => (x.f0, x.f1)) (g := fun x => (⟨x.1, x.2⟩ : S50)) ?_ (fun _ => rfl)
 refine Opens.struct Try.underlying50 (by kernel_rfl) ?_
 exact (OpensF.cons rfl (Opens.int Try.underlying3 (by kernel_rfl)) (OpensF.one rfl (Opens.int Try.underlying3 (by kernel_rfl))))
def wf130 (x : S130) : Prop := x.f0.size ≤ maxLen ∧ x.f1.size ≤ maxLen
set_option maxRecDepth 100000 in
theorem opens130 : Opens Try.prog 130 k130 wf130 := by
 refine Opens.iso (d := (Kd.pair Kd.string Kd.string)) (W := fun x => x.1.size ≤ maxLen ∧ x.2.size ≤ maxLen) (f := fun x : S130 => (x.f0, x.f1)) (g := fun x => (⟨x.1, x.2⟩ : S130)) ?_ (fun _ => rfl)
 refine Opens.struct Try.underlying130 (by kernel_rfl) ?_
 exact (OpensF.cons rfl (Opens.string Try.underlying9 (by kernel_rfl)) (OpensF.one rfl (Opens.string Try.underlying9 (by kernel_rfl))))
def wf53 (x : S53) : Prop := (Lit.int .i64 x.f0).wf = true ∧ wf50 x.f1 ∧ (x.f2.length ≤ 140737488355328 ∧ ∀ y ∈ x.f2, wf130 y)
set_option maxRecDepth 100000 in
theorem opens53 : Opens Try.prog 53 k53 wf53 := by
 refine Opens.iso (d := (Kd.pair (Kd.int .i64) (Kd.pair k50 (Kd.slice 130 k130)))) (W := fun x => (Lit.int .i64 x.1).wf = true ∧ wf50 x.2.1 ∧ (x.2.2.length ≤ 140737488355328 ∧ ∀ y ∈ x.2.2, wf130 y)) (f := fun x : S53 => (x.f0, x.f1, x.f2)) (g := fun x => (⟨x.1, x.2.1, x.2.2⟩ : S53)) ?_ (fun _ => rfl)
 refine Opens.struct Try.underlying53 (by kernel_rfl) ?_
 exact (OpensF.cons rfl (Opens.int Try.underlying3 (by kernel_rfl)) (OpensF.cons rfl opens50 (OpensF.one rfl (Opens.slice Try.underlying51 (by kernel_rfl) (of_decide_eq_true (by kernel_rfl)) opens130))))
def wf56 (x : S56) : Prop := (Lit.int .i64 x.f0).wf = true ∧ (x.f1.length ≤ 140737488355328 ∧ ∀ y ∈ x.f1, (Lit.int .i64 y).wf = true) ∧ (x.f2.length ≤ 140737488355328 ∧ ∀ y ∈ x.f2, wf130 y)
set_option maxRecDepth 100000 in
theorem opens56 : Opens Try.prog 56 k56 wf56 := by
 refine Opens.iso (d := (Kd.pair (Kd.int .i64) (Kd.pair (Kd.slice 3 (Kd.int .i64)) (Kd.slice 130 k130)))) (W := fun x => (Lit.int .i64 x.1).wf = true ∧ (x.2.1.length ≤ 140737488355328 ∧ ∀ y ∈ x.2.1, (Lit.int .i64 y).wf = true) ∧ (x.2.2.length ≤ 140737488355328 ∧ ∀ y ∈ x.2.2, wf130 y)) (f := fun x : S56 => (x.f0, x.f1, x.f2)) (g := fun x => (⟨x.1, x.2.1, x.2.2⟩ : S56)) ?_ (fun _ => rfl)
 refine Opens.struct Try.underlying56 (by kernel_rfl) ?_
 exact (OpensF.cons rfl (Opens.int Try.underlying3 (by kernel_rfl)) (OpensF.cons rfl (Opens.slice Try.underlying54 (by kernel_rfl) (of_decide_eq_true (by kernel_rfl)) (Opens.int Try.underlying3 (by kernel_rfl))) (OpensF.one rfl (Opens.slice Try.underlying51 (by kernel_rfl) (of_decide_eq_true (by kernel_rfl)) opens130))))
def wf61 (x : S61) : Prop := (Lit.int .i64 x.f0).wf = true ∧ (Lit.int .i64 x.f1).wf = true
set_option maxRecDepth 100000 in
theorem opens61 : Opens Try.prog 61 k61 wf61 := by
 refine Opens.iso (d := (Kd.pair (Kd.int .i64) (Kd.int .i64))) (W := fun x => (Lit.int .i64 x.1).wf = true ∧ (Lit.int .i64 x.2).wf = true) (f := fun x : S61 => (x.f0, x.f1)) (g := fun x => (⟨x.1, x.2⟩ : S61)) ?_ (fun _ => rfl)
 refine Opens.struct Try.underlying61 (by kernel_rfl) ?_
 exact (OpensF.cons rfl (Opens.int Try.underlying3 (by kernel_rfl)) (OpensF.one rfl (Opens.int Try.underlying3 (by kernel_rfl))))
def wf63 (x : S63) : Prop := wf61 x.f0 ∧ x.f1.size ≤ maxLen
set_option maxRecDepth 100000 in
theorem opens63 : Opens Try.prog 63 k63 wf63 := by
 refine Opens.iso (d := (Kd.pair k61 Kd.string)) (W := fun x => wf61 x.1 ∧ x.2.size ≤ maxLen) (f := fun x : S63 => (x.f0, x.f1)) (g := fun x => (⟨x.1, x.2⟩ : S63)) ?_ (fun _ => rfl)
 refine Opens.struct Try.underlying63 (by kernel_rfl) ?_
 exact (OpensF.cons rfl opens61 (OpensF.one rfl (Opens.string Try.underlying9 (by kernel_rfl))))
def wf59 (x : S59) : Prop := (Lit.int .i64 x.f0).wf = true ∧ (x.f1.length ≤ 140737488355328 ∧ ∀ y ∈ x.f1, wf63 y) ∧ (x.f2.length ≤ 140737488355328 ∧ ∀ y ∈ x.f2, wf130 y)
set_option maxRecDepth 100000 in
theorem opens59 : Opens Try.prog 59 k59 wf59 := by
 refine Opens.iso (d := (Kd.pair (Kd.int .i64) (Kd.pair (Kd.slice 63 k63) (Kd.slice 130 k130)))) (W := fun x => (Lit.int .i64 x.1).wf = true ∧ (x.2.1.length ≤ 140737488355328 ∧ ∀ y ∈ x.2.1, wf63 y) ∧ (x.2.2.length ≤ 140737488355328 ∧ ∀ y ∈ x.2.2, wf130 y)) (f := fun x : S59 => (x.f0, x.f1, x.f2)) (g := fun x => (⟨x.1, x.2.1, x.2.2⟩ : S59)) ?_ (fun _ => rfl)
 refine Opens.struct Try.underlying59 (by kernel_rfl) ?_
 exact (OpensF.cons rfl (Opens.int Try.underlying3 (by kernel_rfl)) (OpensF.cons rfl (Opens.slice Try.underlying57 (by kernel_rfl) (of_decide_eq_true (by kernel_rfl)) opens63) (OpensF.one rfl (Opens.slice Try.underlying51 (by kernel_rfl) (of_decide_eq_true (by kernel_rfl)) opens130))))
def wf26 (x : S26) : Prop := (x.f0.length ≤ 140737488355328 ∧ ∀ y ∈ x.f0, wf53 y) ∧ (x.f1.length ≤ 140737488355328 ∧ ∀ y ∈ x.f1, wf56 y) ∧ (x.f2.length ≤ 140737488355328 ∧ ∀ y ∈ x.f2, wf59 y)
set_option maxRecDepth 100000 in
theorem opens26 : Opens Try.prog 26 k26 wf26 := by
 refine Opens.iso (d := (Kd.pair (Kd.slice 53 k53) (Kd.pair (Kd.slice 56 k56) (Kd.slice 59 k59)))) (W := fun x => (x.1.length ≤ 140737488355328 ∧ ∀ y ∈ x.1, wf53 y) ∧ (x.2.1.length ≤ 140737488355328 ∧ ∀ y ∈ x.2.1, wf56 y) ∧ (x.2.2.length ≤ 140737488355328 ∧ ∀ y ∈ x.2.2, wf59 y)) (f := fun x : S26 => (x.f0, x.f1, x.f2)) (g := fun x => (⟨x.1, x.2.1, x.2.2⟩ : S26)) ?_ (fun _ => rfl)
 refine Opens.struct Try.underlying26 (by kernel_rfl) ?_
 exact (OpensF.cons rfl (Opens.slice Try.underlying22 (by kernel_rfl) (of_decide_eq_true (by kernel_rfl)) opens53) (OpensF.cons rfl (Opens.slice Try.underlying23 (by kernel_rfl) (of_decide_eq_true (by kernel_rfl)) opens56) (OpensF.one rfl (Opens.slice Try.underlying24 (by kernel_rfl) (of_decide_eq_true (by kernel_rfl)) opens59))))
theorem mapmakerlaw16_CodecPutsData.opens_0 : Opens Try.prog 26 k26 (fun x => wf26 x) := opens26
def mapmakerlaw16_CodecPutsData.Pure : Prop := ∀ (x0 : S26), wf26 x0 → ∃ k, mapmakerlaw16_CodecPutsData.f k x0.f0 x0.f1 x0.f2 = some true
theorem mapmakerlaw16_CodecPutsData.walk (P : mapmakerlaw16_CodecPutsData.Pure) (w : World) (x0 : S26) (cs0 : Array Value) (hK0 : k26.K w x0 cs0.toList) (w0 : wf26 x0) :
  Calls Try.prog 3 #[.agg cs0] w fun e w' => e = .returned (.bool true) ∧ Below w.heap.size w w' := by
 obtain ⟨k, h⟩ := P x0 w0
 obtain ⟨A0_0, c0_0, A0_1, c0_1, A0_2, c0_2, hcs0, hc0_0, hr0_0, hc0_1, hr0_1, hc0_2, hr0_2⟩ := k26_open hK0
 obtain rfl : cs0 = #[.slice A0_0 x0.f0.length c0_0, .slice A0_1 x0.f1.length c0_1, .slice A0_2 x0.f2.length c0_2] := Array.ext' (by rw [hcs0])
 refine (mapmakerlaw16_CodecPutsData.calls k A0_0 c0_0 x0.f0 A0_1 c0_1 x0.f1 A0_2 c0_2 x0.f2 true w hr0_0 hc0_0 hr0_1 hc0_1 hr0_2 hc0_2 h).mono ?_
 rintro e w' ⟨rfl, hd⟩
 exact ⟨rfl, hd⟩
end Go.Proofs.Ytefambkodalomaa.PAll
