-- out of a driver of this session's prover over the kit's print: Lean checks it
import Derived.Test.YtefambkodalomaaPAllx0
import Derived.Test.YtefambkodalomaaPAllx16
namespace Go.Proofs.Ytefambkodalomaa.PAll
open Go.Proofs.YtefambkodalomaaG Go.Shelf Go.Lib
open Go.RowKit Go.Proofs.YtefambkodalomaaW.PrintWords Go.Proofs.YtefambkodalomaaW.PrintLast Go.Proofs.YtefambkodalomaaW.PrintMore
attribute [local go_sem] max2_int min2_int max_two min_two max_three min_three max_four min_four   -- for this text's walks alone
set_option linter.unusedVariables false
set_option linter.unusedSimpArgs false
def mapmakerref16_putWay.l0 : Nat → ByteArray → Int → Int → List Int → List (S130) → Option (ByteArray)
 | 0, _, _, _, _, _ => none
 | k + 1, x0, x5, x529000, x529001, x529002 => if x5 < (x529001.length : Int) then (if 0 ≤ x5 then ((mapmakerref02_PutInt.f k x0 (rd x529001 x5)).bind fun t532 => (mapmakerref16_putWay.l0 k t532 (wrap64 (x5 + 1)) x529000 x529001 x529002)) else (none)) else ((mapmakerref16_putTags.f k x0 x529002).bind fun t533 => (some t533))
def mapmakerref16_putWay.f (k : Nat) (a0 : ByteArray) (a1_0 : Int) (l1_1 : List Int) (l1_2 : List (S130)) : Option (ByteArray) := (mapmakerref02_PutInt.f k a0 a1_0).bind fun t529 => ((mapmakerref02_PutUint.f k t529 (IntKind.u64.wrap ((l1_1.length : Int)))).bind fun t530 => (mapmakerref16_putWay.l0 k t530 0 a1_0 l1_1 l1_2))
theorem mapmakerref16_putWay.mono_l : ∀ k, (∀ y0 y1 y2 y3 y4, LeO (mapmakerref16_putWay.l0 k y0 y1 y2 y3 y4) (mapmakerref16_putWay.l0 (k + 1) y0 y1 y2 y3 y4))
 | 0 => fun _ _ _ _ _ r h => by simp [mapmakerref16_putWay.l0] at h
 | k + 1 => by
  have ih0 := mapmakerref16_putWay.mono_l k
  ·intro y0 y1 y2 y3 y4
   unfold mapmakerref16_putWay.l0
   repeat' first
   | (with_reducible exact ih0 _ _ _ _ _)
   | (with_reducible exact mapmakerref02_PutInt.mono _ _ _)
   | (with_reducible exact mapmakerref02_PutUint.mono _ _ _)
   | (with_reducible exact mapmakerref16_putTags.mono _ _ _)
   | (with_reducible exact LeO.refl _)
   | (with_reducible exact LeO.none _)
   | (with_reducible refine LeO.ite ?_ ?_)
   | (with_reducible refine LeO.eB ?_ (fun _ => ?_))
   | (with_reducible refine LeO.bind ?_ (fun _ => ?_))
   | exact ih0 _ _ _ _ _
   | exact mapmakerref02_PutInt.mono _ _ _
   | exact mapmakerref02_PutUint.mono _ _ _
   | exact mapmakerref16_putTags.mono _ _ _
   | exact LeO.none _
   | refine LeO.ite ?_ ?_
   | refine LeO.bind ?_ (fun _ => ?_)
theorem mapmakerref16_putWay.mono : ∀ a0 a1 a2 a3 k, LeO (mapmakerref16_putWay.f k a0 a1 a2 a3) (mapmakerref16_putWay.f (k + 1) a0 a1 a2 a3) := by
 intro a0 a1 a2 a3 k; have ih0 := mapmakerref16_putWay.mono_l k; unfold mapmakerref16_putWay.f
 repeat' first
   | (with_reducible exact ih0 _ _ _ _ _)
   | (with_reducible exact mapmakerref02_PutInt.mono _ _ _)
   | (with_reducible exact mapmakerref02_PutUint.mono _ _ _)
   | (with_reducible exact mapmakerref16_putTags.mono _ _ _)
   | (with_reducible exact LeO.refl _)
   | (with_reducible exact LeO.none _)
   | (with_reducible refine LeO.ite ?_ ?_)
   | (with_reducible refine LeO.eB ?_ (fun _ => ?_))
   | (with_reducible refine LeO.bind ?_ (fun _ => ?_))
   | exact ih0 _ _ _ _ _
   | exact mapmakerref02_PutInt.mono _ _ _
   | exact mapmakerref02_PutUint.mono _ _ _
   | exact mapmakerref16_putTags.mono _ _ _
   | exact LeO.none _
   | refine LeO.ite ?_ ?_
   | refine LeO.bind ?_ (fun _ => ?_)
def mapmakerref16_putWay.T1 : Bool × List (List Nat × List Nat) := (true, [([], []), ([], []), ([1], [1]), ([0, 2], [0, 2]), ([], []), ([4], [4]), ([5], [5]), ([6], [6]), ([3, 7, 3], [3, 7]), ([8, 8, 0, 1, 2, 3, 4, 5, 6, 7, 8], [0, 8])])
def mapmakerref16_putWay.B1 : List Nat := [0, 0, 2, 7, 0, 16, 48, 112, 255, 511]
theorem mapmakerref16_putWay.tab1 : rtab .any (opsOf Try.f33 1) = mapmakerref16_putWay.T1 := by kernel_rfl
theorem mapmakerref16_putWay.bits1 : waitsOk mapmakerref16_putWay.T1.2 mapmakerref16_putWay.B1 = true := by kernel_rfl
set_option maxHeartbeats 8000000 in
set_option maxRecDepth 100000 in
theorem mapmakerref16_putWay.calls (k : Nat) (a0 : ByteArray) (a1_0 : Int) (A1_1 : Option Addr) (c1_1 : Nat) (l1_1 : List Int) (A1_2 : Option Addr) (c1_2 : Nat) (l1_2 : List (S130)) (r : ByteArray) (w : World) (hr1_1 : Kd.C (Kd.int .i64) w A1_1 l1_1.length l1_1) (hc1_1 : l1_1.length ≤ c1_1) (hr1_2 : Kd.C k130 w A1_2 l1_2.length l1_2) (hc1_2 : l1_2.length ≤ c1_2) (h : mapmakerref16_putWay.f k a0 a1_0 l1_1 l1_2 = some r) :
  Calls Try.prog 33 #[.string a0, .agg #[.int .i64 a1_0, .slice A1_1 l1_1.length c1_1, .slice A1_2 l1_2.length c1_2]] w fun e w' => e = .returned (.string r) ∧ Below w.heap.size w w' := by
 have hu56 := Try.underlying56; have HR1_1 := aM hr1_1; have HC1_1 := aM hc1_1; clear hr1_1 hc1_1; have HR1_2 := aM hr1_2; have HC1_2 := aM hc1_2; clear hr1_2 hc1_2; have HB := aM (Below.refl w.heap.size w); have H : ((mapmakerref02_PutInt.f k a0 a1_0).bind fun t529 => ((mapmakerref02_PutUint.f k t529 (IntKind.u64.wrap ((l1_1.length : Int)))).bind fun t530 => (mapmakerref16_putWay.l0 k t530 0 a1_0 l1_1 l1_2))) = some r := h; clear h; replace H := Option.bind_eq_some_iff.mp H; obtain ⟨t529, A30, H⟩ := H; (try dsimp only at H); have A3 := aM A30; clear A30; replace H := Option.bind_eq_some_iff.mp H; obtain ⟨t530, A40, H⟩ := H; (try dsimp only at H); have A4 := aM A40; clear A40; have H' := aM H; clear H; go_enter Try.func33, Try.ntmps33
 try go_wp2_with (first | ((with_reducible refine gate_dst (N := 3) rfl ?_); refine bx (N := 3) (cs := #[.int .i64 a1_0, .slice A1_1 l1_1.length c1_1, .slice A1_2 l1_2.length c1_2]) (t := 56) ?_; intro gb528 hg w5 hbox hb; have BK528 := aM (hbox); have GE528 := aM (gw (w := w) hg); replace HB := aM (bS (bl) hb); clear hb hbox hg))
 replace BK528 := aM (kD BK528.out); replace HB := aM (bD HB.out); refine start_ (n := 10) (S := fun w' => w'.cell? ⟨gb528, 0, none⟩ = some (.int .i64 a1_0) ∧ w'.cell? ⟨gb528, 1, none⟩ = some (.slice A1_1 l1_1.length c1_1) ∧ w'.cell? ⟨gb528, 2, none⟩ = some (.slice A1_2 l1_2.length c1_2)) (ds := []) #[false, false, false, false, false, false, false, false, false, false] (by kernel_rfl) rfl rfl ⟨(kC BK528.out 0).trans rfl, (kC BK528.out 1).trans rfl, (kC BK528.out 2).trans rfl⟩ (fun hHeld => ?_); refine with_tabW mapmakerref16_putWay.tab1 mapmakerref16_putWay.bits1 (fun HT_ HW_ => ?_); generalize w5.drew = w6 at BK528 HB hHeld ⊢; refine pu 0 6 (ba 10 1) ?_; refine pu 1 7 (ba 10 3) ?_; refine pu 4 10 (ba 10 19) ?_; refine tk 2 8 (ba 10 23) ?_; refine tk 5 11 (ba 10 55) ?_; refine pu 6 12 (ba 10 119) ?_; refine pu 7 13 (ba 10 247) ?_; refine one_ (i := 3) (N := some 9) (ba 10 255) rfl rfl (one_of HT_.out (by kernel_rfl)) (by decide) (fun K hK => ?_); refine goes_ Try.func53 (by kernel_rfl) rfl #[.string a0, .int .i64 a1_0] (by rfl) rfl rfl (by (try simp only [List.map_toArray, List.map_cons, List.map_nil]); first | done | rfl | (simp only [List.length_drop, List.length_take]; rfl)) ?_
 with_reducible refine (mapmakerref02_PutInt.calls k a0 a1_0 t529 _ A3.out).mono ?_
 rintro e w7 ⟨rfl, hb⟩; refine ⟨_, rfl, ?_⟩; replace BK528 := aM (kB (kl BK528) hb); replace HB := aM (bS (bl) hb)
 (try clear hb)
 (try clear hb2)
 (try clear hk)
 (try clear hi)
 refine hK.out _ _ ⟨(kC BK528.out 0).trans rfl, (kC BK528.out 1).trans rfl, (kC BK528.out 2).trans rfl⟩ (fun hHeld => ?_); clear hK K; refine norm_ (a' := ?_) ?_ ?_; rotate_left
 ·show Act.put _ (some 9) _ = _
  simp only [Act.put, sA, sB, sC, i64_w, i32_w]; rfl
 refine one_ (i := 8) (N := some 14) (ba 10 511) rfl rfl (one_of HT_.out (by kernel_rfl)) (by decide) (fun K hK => ?_); refine goes_ Try.func31 (by kernel_rfl) rfl #[.string t529, .int .u64 (IntKind.u64.wrap ((l1_1.length : Int)))] (by rfl) rfl rfl (by (try simp only [List.map_toArray, List.map_cons, List.map_nil]); first | done | rfl | (simp only [List.length_drop, List.length_take]; rfl)) ?_
 with_reducible refine (mapmakerref02_PutUint.calls k t529 (IntKind.u64.wrap ((l1_1.length : Int))) t530 _ A4.out).mono ?_
 rintro e w8 ⟨rfl, hb⟩; refine ⟨_, rfl, ?_⟩; replace BK528 := aM (kB (kl BK528) hb); replace HB := aM (bS (bl) hb)
 (try clear hb)
 (try clear hb2)
 (try clear hk)
 (try clear hi)
 refine hK.out _ _ ⟨(kC BK528.out 0).trans rfl, (kC BK528.out 1).trans rfl, (kC BK528.out 2).trans rfl⟩ (fun hHeld => ?_); clear hK K; refine norm_ (a' := ?_) ?_ ?_; rotate_left
 ·show Act.put _ (some 14) _ = _
  simp only [Act.put, sA, sB, sC, i64_w, i32_w]; rfl
 refine pu 9 0 (ba 10 1023) ?_; refine done_ (done_of HT_.out (by kernel_rfl)) ?_
 try go_wp2
 go_loopg [0, 5] k (fun kq v0 v5 w' => ∃ (x0_1 : ByteArray) (x5_1 : Int), v0 = .string x0_1 ∧ v5 = .int .i64 x5_1 ∧ Aside0 (mapmakerref16_putWay.l0 kq x0_1 x5_1 a1_0 l1_1 l1_2 = some r) ∧ Aside0 (kq ≤ k) ∧ Aside0 (w'.heap[gb528]? = some (.cells #[.int .i64 a1_0, (.slice A1_1 l1_1.length c1_1), (.slice A1_2 l1_2.length c1_2)] 56 (0, 0))) ∧ Aside0 (Below w.heap.size w w'))
 case atStart => exact ⟨(t530), (0), (by first | rfl | (simp; done) | (simp [*]; done)), (by first | rfl | (simp; done) | (simp [*]; done)), H', ⟨Nat.le_refl _⟩, ⟨kl BK528⟩, ⟨bl⟩⟩
 case round =>
  clear H'; obtain ⟨x0_1, x5_1, rfl, rfl, HA, HK1, BK528, HB⟩ := hrel
  cases gk with
  | zero => exact absurd HA.out (by simp [mapmakerref16_putWay.l0])
  | succ k1 =>
   have H := HA.out; clear HA; simp only [mapmakerref16_putWay.l0] at H
   by_cases c9 : x5_1 < (l1_1.length : Int)
   ·rw [if_pos c9] at H; have c9b0 : decide (x5_1 < (l1_1.length : Int)) = true := decide_eq_true c9; clear c9
    by_cases c10 : 0 ≤ x5_1
    ·rw [if_pos c10] at H; have c10b0 : decide (0 ≤ x5_1) = true := decide_eq_true c10; clear c10; replace H := Option.bind_eq_some_iff.mp H; obtain ⟨t532, A110, H⟩ := H; (try dsimp only at H); have A11 := aM A110; clear A110; have H' := aM H; clear H; have hz12 := bc3 BK528; have p531 : 0 ≤ (x5_1 : Int) := oT; have q531 : x5_1 < (l1_1.length : Int) := oT; obtain ⟨ad531, e531, hx531_0⟩ := Kd.at_int HR1_1.out x5_1 p531 q531; cases e531
     replace hx531_0 := hs HB.out hx531_0; replace p531 := eq_true p531; replace q531 := eq_true q531
     go_wp2_with (first | ((with_reducible refine gate_callee (f := 53) rfl ?_); refine gL (some 28) Try.func53 #[.string x0_1, .int .i64 (rd l1_1 x5_1)] ?_; (with_reducible refine (mapmakerref02_PutInt.calls k1 x0_1 (rd l1_1 x5_1) t532 _ A11.out).mono ?_); rintro e w13 ⟨rfl, hb⟩; refine ⟨_, rfl, ?_⟩; replace BK528 := aM (kB (kl BK528) hb); replace HB := aM (bS (bl) hb); (try clear hb)))
     go_roundg k1
     case measure => have := HK1.out; omega
     case rel => exact ⟨(t532), (wrap64 (x5_1 + 1)), (by first | rfl | (simp; done) | (simp [*]; done)), (by first | rfl | (simp; done) | (simp [*]; done)), H', ⟨by have := HK1.out; omega⟩, ⟨kl BK528⟩, ⟨bl⟩⟩
    ·rw [if_neg c10] at H; exact absurd H (by simp)
   ·rw [if_neg c9] at H; have c9b0 : decide (x5_1 < (l1_1.length : Int)) = false := decide_eq_false c9; clear c9; replace H := Option.bind_eq_some_iff.mp H; obtain ⟨t533, A140, H⟩ := H; (try dsimp only at H); have A14 := aM A140; clear A140; obtain rfl := Option.some.inj H; have hz15 := bc3 BK528
    go_wp2_with (first | ((with_reducible refine gate_callee (f := 78) rfl ?_); refine gL (some 32) Try.func78 #[.string x0_1, .slice A1_2 l1_2.length c1_2] ?_; (with_reducible refine (mapmakerref16_putTags.calls k1 x0_1 _ _ l1_2 t533 _ ?side1 ?side2 A14.out).mono ?_); (case side1 => exact cl HR1_2); (case side2 => exact HC1_2.out); rintro e w16 ⟨rfl, hb⟩; refine ⟨_, rfl, ?_⟩; replace HB := aM (bS (bl) hb); clear BK528; (try clear hb)))
    go_ret; exact ⟨by first | rfl | (simp [errW_none, errW_some] <;> rfl) | (simp [*, errW_none, errW_some] <;> rfl), bl⟩
def mapmakerref16_putRel.l0 : Nat → ByteArray → Int → Int → List (S63) → List (S130) → Option (ByteArray)
 | 0, _, _, _, _, _ => none
 | k + 1, x0, x5, x535000, x535001, x535002 => if x5 < (x535001.length : Int) then (if 0 ≤ x5 then ((mapmakerref02_PutInt.f k x0 ((rd_T63 x535001 x5).f0.f0)).bind fun t539 => ((mapmakerref02_PutInt.f k t539 ((rd_T63 x535001 x5).f0.f1)).bind fun t540 => ((mapmakerref02_PutText.f k t540 ((rd_T63 x535001 x5).f1)).bind fun t541 => (mapmakerref16_putRel.l0 k t541 (wrap64 (x5 + 1)) x535000 x535001 x535002)))) else (none)) else ((mapmakerref16_putTags.f k x0 x535002).bind fun t542 => (some t542))
def mapmakerref16_putRel.f (k : Nat) (a0 : ByteArray) (a1_0 : Int) (l1_1 : List (S63)) (l1_2 : List (S130)) : Option (ByteArray) := (mapmakerref02_PutInt.f k a0 a1_0).bind fun t535 => ((mapmakerref02_PutUint.f k t535 (IntKind.u64.wrap ((l1_1.length : Int)))).bind fun t536 => (mapmakerref16_putRel.l0 k t536 0 a1_0 l1_1 l1_2))
theorem mapmakerref16_putRel.mono_l : ∀ k, (∀ y0 y1 y2 y3 y4, LeO (mapmakerref16_putRel.l0 k y0 y1 y2 y3 y4) (mapmakerref16_putRel.l0 (k + 1) y0 y1 y2 y3 y4))
 | 0 => fun _ _ _ _ _ r h => by simp [mapmakerref16_putRel.l0] at h
 | k + 1 => by
  have ih0 := mapmakerref16_putRel.mono_l k
  ·intro y0 y1 y2 y3 y4
   unfold mapmakerref16_putRel.l0
   repeat' first
   | (with_reducible exact ih0 _ _ _ _ _)
   | (with_reducible exact mapmakerref02_PutInt.mono _ _ _)
   | (with_reducible exact mapmakerref02_PutText.mono _ _ _)
   | (with_reducible exact mapmakerref02_PutUint.mono _ _ _)
   | (with_reducible exact mapmakerref16_putTags.mono _ _ _)
   | (with_reducible exact LeO.refl _)
   | (with_reducible exact LeO.none _)
   | (with_reducible refine LeO.ite ?_ ?_)
   | (with_reducible refine LeO.eB ?_ (fun _ => ?_))
   | (with_reducible refine LeO.bind ?_ (fun _ => ?_))
   | exact ih0 _ _ _ _ _
   | exact mapmakerref02_PutInt.mono _ _ _
   | exact mapmakerref02_PutText.mono _ _ _
   | exact mapmakerref02_PutUint.mono _ _ _
   | exact mapmakerref16_putTags.mono _ _ _
   | exact LeO.none _
   | refine LeO.ite ?_ ?_
   | refine LeO.bind ?_ (fun _ => ?_)
theorem mapmakerref16_putRel.mono : ∀ a0 a1 a2 a3 k, LeO (mapmakerref16_putRel.f k a0 a1 a2 a3) (mapmakerref16_putRel.f (k + 1) a0 a1 a2 a3) := by
 intro a0 a1 a2 a3 k; have ih0 := mapmakerref16_putRel.mono_l k; unfold mapmakerref16_putRel.f
 repeat' first
   | (with_reducible exact ih0 _ _ _ _ _)
   | (with_reducible exact mapmakerref02_PutInt.mono _ _ _)
   | (with_reducible exact mapmakerref02_PutText.mono _ _ _)
   | (with_reducible exact mapmakerref02_PutUint.mono _ _ _)
   | (with_reducible exact mapmakerref16_putTags.mono _ _ _)
   | (with_reducible exact LeO.refl _)
   | (with_reducible exact LeO.none _)
   | (with_reducible refine LeO.ite ?_ ?_)
   | (with_reducible refine LeO.eB ?_ (fun _ => ?_))
   | (with_reducible refine LeO.bind ?_ (fun _ => ?_))
   | exact ih0 _ _ _ _ _
   | exact mapmakerref02_PutInt.mono _ _ _
   | exact mapmakerref02_PutText.mono _ _ _
   | exact mapmakerref02_PutUint.mono _ _ _
   | exact mapmakerref16_putTags.mono _ _ _
   | exact LeO.none _
   | refine LeO.ite ?_ ?_
   | refine LeO.bind ?_ (fun _ => ?_)
def mapmakerref16_putRel.T1 : Bool × List (List Nat × List Nat) := (true, [([], []), ([], []), ([1], [1]), ([0, 2], [0, 2]), ([], []), ([4], [4]), ([5], [5]), ([6], [6]), ([3, 7, 3], [3, 7]), ([8, 8, 0, 1, 2, 3, 4, 5, 6, 7, 8], [0, 8])])
def mapmakerref16_putRel.B1 : List Nat := [0, 0, 2, 7, 0, 16, 48, 112, 255, 511]
theorem mapmakerref16_putRel.tab1 : rtab .any (opsOf Try.f34 1) = mapmakerref16_putRel.T1 := by kernel_rfl
theorem mapmakerref16_putRel.bits1 : waitsOk mapmakerref16_putRel.T1.2 mapmakerref16_putRel.B1 = true := by kernel_rfl
def mapmakerref16_putRel.T6 : Bool × List (List Nat × List Nat) := (true, [([], []), ([], []), ([1], [1]), ([2], [2]), ([0, 3], [0, 3]), ([], []), ([5], [5]), ([6], [6]), ([4, 7, 4], [4, 7]), ([], []), ([9], [9]), ([8, 10, 8], [8, 10]), ([11, 11, 0, 1, 2, 3, 4, 5, 6, 7, 8, 9, 10, 11], [0, 11])])
def mapmakerref16_putRel.B6 : List Nat := [0, 0, 2, 6, 15, 0, 32, 96, 255, 0, 512, 2047, 4095]
theorem mapmakerref16_putRel.tab6 : rtab .any (opsOf Try.f34 6) = mapmakerref16_putRel.T6 := by kernel_rfl
theorem mapmakerref16_putRel.bits6 : waitsOk mapmakerref16_putRel.T6.2 mapmakerref16_putRel.B6 = true := by kernel_rfl
set_option maxHeartbeats 8000000 in
set_option maxRecDepth 100000 in
theorem mapmakerref16_putRel.calls (k : Nat) (a0 : ByteArray) (a1_0 : Int) (A1_1 : Option Addr) (c1_1 : Nat) (l1_1 : List (S63)) (A1_2 : Option Addr) (c1_2 : Nat) (l1_2 : List (S130)) (r : ByteArray) (w : World) (hr1_1 : Kd.C k63 w A1_1 l1_1.length l1_1) (hc1_1 : l1_1.length ≤ c1_1) (hr1_2 : Kd.C k130 w A1_2 l1_2.length l1_2) (hc1_2 : l1_2.length ≤ c1_2) (h : mapmakerref16_putRel.f k a0 a1_0 l1_1 l1_2 = some r) :
  Calls Try.prog 34 #[.string a0, .agg #[.int .i64 a1_0, .slice A1_1 l1_1.length c1_1, .slice A1_2 l1_2.length c1_2]] w fun e w' => e = .returned (.string r) ∧ Below w.heap.size w w' := by
 have hu59 := Try.underlying59; have hu63 := Try.underlying63; have HR1_1 := aM hr1_1; have HC1_1 := aM hc1_1; clear hr1_1 hc1_1; have HR1_2 := aM hr1_2; have HC1_2 := aM hc1_2; clear hr1_2 hc1_2; have HB := aM (Below.refl w.heap.size w); have H : ((mapmakerref02_PutInt.f k a0 a1_0).bind fun t535 => ((mapmakerref02_PutUint.f k t535 (IntKind.u64.wrap ((l1_1.length : Int)))).bind fun t536 => (mapmakerref16_putRel.l0 k t536 0 a1_0 l1_1 l1_2))) = some r := h; clear h; replace H := Option.bind_eq_some_iff.mp H; obtain ⟨t535, A30, H⟩ := H; (try dsimp only at H); have A3 := aM A30; clear A30; replace H := Option.bind_eq_some_iff.mp H; obtain ⟨t536, A40, H⟩ := H; (try dsimp only at H); have A4 := aM A40; clear A40; have H' := aM H; clear H; go_enter Try.func34, Try.ntmps34
 try go_wp2_with (first | ((with_reducible refine gate_dst (N := 3) rfl ?_); refine bx (N := 3) (cs := #[.int .i64 a1_0, .slice A1_1 l1_1.length c1_1, .slice A1_2 l1_2.length c1_2]) (t := 59) ?_; intro gb534 hg w5 hbox hb; have BK534 := aM (hbox); have GE534 := aM (gw (w := w) hg); replace HB := aM (bS (bl) hb); clear hb hbox hg))
 replace BK534 := aM (kD BK534.out); replace HB := aM (bD HB.out); refine start_ (n := 10) (S := fun w' => w'.cell? ⟨gb534, 0, none⟩ = some (.int .i64 a1_0) ∧ w'.cell? ⟨gb534, 1, none⟩ = some (.slice A1_1 l1_1.length c1_1) ∧ w'.cell? ⟨gb534, 2, none⟩ = some (.slice A1_2 l1_2.length c1_2)) (ds := []) #[false, false, false, false, false, false, false, false, false, false] (by kernel_rfl) rfl rfl ⟨(kC BK534.out 0).trans rfl, (kC BK534.out 1).trans rfl, (kC BK534.out 2).trans rfl⟩ (fun hHeld => ?_); refine with_tabW mapmakerref16_putRel.tab1 mapmakerref16_putRel.bits1 (fun HT_ HW_ => ?_); generalize w5.drew = w6 at BK534 HB hHeld ⊢; refine pu 0 7 (ba 10 1) ?_; refine pu 1 8 (ba 10 3) ?_; refine pu 4 11 (ba 10 19) ?_; refine tk 2 9 (ba 10 23) ?_; refine tk 5 12 (ba 10 55) ?_; refine pu 6 13 (ba 10 119) ?_; refine pu 7 14 (ba 10 247) ?_; refine one_ (i := 3) (N := some 10) (ba 10 255) rfl rfl (one_of HT_.out (by kernel_rfl)) (by decide) (fun K hK => ?_); refine goes_ Try.func53 (by kernel_rfl) rfl #[.string a0, .int .i64 a1_0] (by rfl) rfl rfl (by (try simp only [List.map_toArray, List.map_cons, List.map_nil]); first | done | rfl | (simp only [List.length_drop, List.length_take]; rfl)) ?_
 with_reducible refine (mapmakerref02_PutInt.calls k a0 a1_0 t535 _ A3.out).mono ?_
 rintro e w7 ⟨rfl, hb⟩; refine ⟨_, rfl, ?_⟩; replace BK534 := aM (kB (kl BK534) hb); replace HB := aM (bS (bl) hb)
 (try clear hb)
 (try clear hb2)
 (try clear hk)
 (try clear hi)
 refine hK.out _ _ ⟨(kC BK534.out 0).trans rfl, (kC BK534.out 1).trans rfl, (kC BK534.out 2).trans rfl⟩ (fun hHeld => ?_); clear hK K; refine norm_ (a' := ?_) ?_ ?_; rotate_left
 ·show Act.put _ (some 10) _ = _
  simp only [Act.put, sA, sB, sC, i64_w, i32_w]; rfl
 refine one_ (i := 8) (N := some 15) (ba 10 511) rfl rfl (one_of HT_.out (by kernel_rfl)) (by decide) (fun K hK => ?_); refine goes_ Try.func31 (by kernel_rfl) rfl #[.string t535, .int .u64 (IntKind.u64.wrap ((l1_1.length : Int)))] (by rfl) rfl rfl (by (try simp only [List.map_toArray, List.map_cons, List.map_nil]); first | done | rfl | (simp only [List.length_drop, List.length_take]; rfl)) ?_
 with_reducible refine (mapmakerref02_PutUint.calls k t535 (IntKind.u64.wrap ((l1_1.length : Int))) t536 _ A4.out).mono ?_
 rintro e w8 ⟨rfl, hb⟩; refine ⟨_, rfl, ?_⟩; replace BK534 := aM (kB (kl BK534) hb); replace HB := aM (bS (bl) hb)
 (try clear hb)
 (try clear hb2)
 (try clear hk)
 (try clear hi)
 refine hK.out _ _ ⟨(kC BK534.out 0).trans rfl, (kC BK534.out 1).trans rfl, (kC BK534.out 2).trans rfl⟩ (fun hHeld => ?_); clear hK K; refine norm_ (a' := ?_) ?_ ?_; rotate_left
 ·show Act.put _ (some 15) _ = _
  simp only [Act.put, sA, sB, sC, i64_w, i32_w]; rfl
 refine pu 9 0 (ba 10 1023) ?_; refine done_ (done_of HT_.out (by kernel_rfl)) ?_
 try go_wp2
 go_loopg [0, 5] k (fun kq v0 v5 w' => ∃ (x0_1 : ByteArray) (x5_1 : Int), v0 = .string x0_1 ∧ v5 = .int .i64 x5_1 ∧ Aside0 (mapmakerref16_putRel.l0 kq x0_1 x5_1 a1_0 l1_1 l1_2 = some r) ∧ Aside0 (kq ≤ k) ∧ Aside0 (w'.heap[gb534]? = some (.cells #[.int .i64 a1_0, (.slice A1_1 l1_1.length c1_1), (.slice A1_2 l1_2.length c1_2)] 59 (0, 0))) ∧ Aside0 (Below w.heap.size w w'))
 case atStart => exact ⟨(t536), (0), (by first | rfl | (simp; done) | (simp [*]; done)), (by first | rfl | (simp; done) | (simp [*]; done)), H', ⟨Nat.le_refl _⟩, ⟨kl BK534⟩, ⟨bl⟩⟩
 case round =>
  clear H'; obtain ⟨x0_1, x5_1, rfl, rfl, HA, HK1, BK534, HB⟩ := hrel
  cases gk with
  | zero => exact absurd HA.out (by simp [mapmakerref16_putRel.l0])
  | succ k1 =>
   have H := HA.out; clear HA; simp only [mapmakerref16_putRel.l0] at H
   by_cases c9 : x5_1 < (l1_1.length : Int)
   ·rw [if_pos c9] at H; have c9b0 : decide (x5_1 < (l1_1.length : Int)) = true := decide_eq_true c9; clear c9
    by_cases c10 : 0 ≤ x5_1
    ·rw [if_pos c10] at H; have c10b0 : decide (0 ≤ x5_1) = true := decide_eq_true c10; clear c10; replace H := Option.bind_eq_some_iff.mp H; obtain ⟨t539, A110, H⟩ := H; (try dsimp only at H); have A11 := aM A110; clear A110; replace H := Option.bind_eq_some_iff.mp H; obtain ⟨t540, A120, H⟩ := H; (try dsimp only at H); have A12 := aM A120; clear A120; replace H := Option.bind_eq_some_iff.mp H; obtain ⟨t541, A130, H⟩ := H; (try dsimp only at H); have A13 := aM A130; clear A130; have H' := aM H; clear H; have hz14 := bc3 BK534; have p537 : 0 ≤ (x5_1 : Int) := oT; have q537 : x5_1 < (l1_1.length : Int) := oT; obtain ⟨ad537, e537, hx537_0, hx537_1, hx537_2⟩ := at_T63 HR1_1.out x5_1 p537 q537; cases e537
     replace hx537_0 := hs HB.out hx537_0; replace hx537_1 := hs HB.out hx537_1; replace hx537_2 := hs HB.out hx537_2; replace p537 := eq_true p537; replace q537 := eq_true q537
     try go_wp2_with (first | ((with_reducible refine gate_dst (N := 6) rfl ?_); refine bx (N := 6) (cs := #[.int .i64 0, .int .i64 0, .string (⟨#[]⟩ : ByteArray)]) (t := 63) ?_; intro gb538 hg w15 hbox hb; have BK538 := aM (hbox); have GE538 := aM (gw (w := w) hg); obtain ⟨NB534_538, NB538_534⟩ := n2 BK534 hg; replace BK534 := aM (kB (kl BK534) hb); replace HB := aM (bS (bl) hb); clear hb hbox hg; have hn16 := nn NB538_534; have hz17 := bc3 BK538))
     have n0_ : Aside0 ((((w15.setCell ⟨gb538, 0, none⟩ (.int .i64 ((rd_T63 l1_1 x5_1).f0.f0))).setCell ⟨gb538, 1, none⟩ (.int .i64 ((rd_T63 l1_1 x5_1).f0.f1))).setCell ⟨gb538, 2, none⟩ (.string ((rd_T63 l1_1 x5_1).f1))).heap[gb534]? = some (.cells #[.int .i64 a1_0, .slice (some ad537) l1_1.length c1_1, .slice A1_2 l1_2.length c1_2] 59 (0, 0))) := ⟨bk BK534⟩; have n1_ : Aside0 ((((w15.setCell ⟨gb538, 0, none⟩ (.int .i64 ((rd_T63 l1_1 x5_1).f0.f0))).setCell ⟨gb538, 1, none⟩ (.int .i64 ((rd_T63 l1_1 x5_1).f0.f1))).setCell ⟨gb538, 2, none⟩ (.string ((rd_T63 l1_1 x5_1).f1))).heap[gb538]? = some (.cells #[.int .i64 ((rd_T63 l1_1 x5_1).f0.f0), .int .i64 ((rd_T63 l1_1 x5_1).f0.f1), .string ((rd_T63 l1_1 x5_1).f1)] 63 (0, 0))) := ⟨bk BK538⟩; have n2_ : Aside0 (Below w.heap.size w (((w15.setCell ⟨gb538, 0, none⟩ (.int .i64 ((rd_T63 l1_1 x5_1).f0.f0))).setCell ⟨gb538, 1, none⟩ (.int .i64 ((rd_T63 l1_1 x5_1).f0.f1))).setCell ⟨gb538, 2, none⟩ (.string ((rd_T63 l1_1 x5_1).f1)))) := ⟨bl⟩
     (try clear BK534)
     (try clear BK538)
     (try clear HB)
     generalize (((w15.setCell ⟨gb538, 0, none⟩ (.int .i64 ((rd_T63 l1_1 x5_1).f0.f0))).setCell ⟨gb538, 1, none⟩ (.int .i64 ((rd_T63 l1_1 x5_1).f0.f1))).setCell ⟨gb538, 2, none⟩ (.string ((rd_T63 l1_1 x5_1).f1))) = w18 at n0_ n1_ n2_ ⊢; have BK534 := n0_; have BK538 := n1_; have HB := n2_; clear n0_ n1_ n2_; replace BK534 := aM (kD BK534.out); replace BK538 := aM (kD BK538.out); replace HB := aM (bD HB.out); refine start_ (n := 13) (S := fun w' => w'.cell? ⟨gb538, 0, none⟩ = some (.int .i64 ((rd_T63 l1_1 x5_1).f0.f0)) ∧ w'.cell? ⟨gb538, 1, none⟩ = some (.int .i64 ((rd_T63 l1_1 x5_1).f0.f1)) ∧ w'.cell? ⟨gb538, 2, none⟩ = some (.string ((rd_T63 l1_1 x5_1).f1))) (ds := []) #[false, false, false, false, false, false, false, false, false, false, false, false, false] (by kernel_rfl) rfl rfl ⟨(kC BK538.out 0).trans rfl, (kC BK538.out 1).trans rfl, (kC BK538.out 2).trans rfl⟩ (fun hHeld => ?_); refine with_tabW mapmakerref16_putRel.tab6 mapmakerref16_putRel.bits6 (fun HT_ HW_ => ?_); generalize w18.drew = w19 at BK534 BK538 HB hHeld ⊢; refine pu 0 28 (ba 13 1) ?_; refine pu 1 29 (ba 13 3) ?_; refine pu 2 30 (ba 13 7) ?_; refine pu 5 33 (ba 13 39) ?_; refine pu 6 34 (ba 13 103) ?_; refine pu 9 37 (ba 13 615) ?_; refine tk 3 31 (ba 13 623) ?_; refine tk 7 35 (ba 13 751) ?_; refine tk 10 38 (ba 13 1775) ?_; refine one_ (i := 4) (N := some 32) (ba 13 1791) rfl rfl (one_of HT_.out (by kernel_rfl)) (by decide) (fun K hK => ?_); refine goes_ Try.func53 (by kernel_rfl) rfl #[.string x0_1, .int .i64 ((rd_T63 l1_1 x5_1).f0.f0)] (by rfl) rfl rfl (by (try simp only [List.map_toArray, List.map_cons, List.map_nil]); first | done | rfl | (simp only [List.length_drop, List.length_take]; rfl)) ?_
     with_reducible refine (mapmakerref02_PutInt.calls k1 x0_1 ((rd_T63 l1_1 x5_1).f0.f0) t539 _ A11.out).mono ?_
     rintro e w20 ⟨rfl, hb⟩; refine ⟨_, rfl, ?_⟩; replace BK534 := aM (kB (kl BK534) hb); replace BK538 := aM (kB (kl BK538) hb); replace HB := aM (bS (bl) hb)
     (try clear hb)
     (try clear hb2)
     (try clear hk)
     (try clear hi)
     refine hK.out _ _ ⟨(kC BK538.out 0).trans rfl, (kC BK538.out 1).trans rfl, (kC BK538.out 2).trans rfl⟩ (fun hHeld => ?_); clear hK K; refine norm_ (a' := ?_) ?_ ?_; rotate_left
     ·show Act.put _ (some 32) _ = _
      simp only [Act.put, sA, sB, sC, i64_w, i32_w]; rfl
     refine one_ (i := 8) (N := some 36) (ba 13 2047) rfl rfl (one_of HT_.out (by kernel_rfl)) (by decide) (fun K hK => ?_); refine goes_ Try.func53 (by kernel_rfl) rfl #[.string t539, .int .i64 ((rd_T63 l1_1 x5_1).f0.f1)] (by rfl) rfl rfl (by (try simp only [List.map_toArray, List.map_cons, List.map_nil]); first | done | rfl | (simp only [List.length_drop, List.length_take]; rfl)) ?_
     with_reducible refine (mapmakerref02_PutInt.calls k1 t539 ((rd_T63 l1_1 x5_1).f0.f1) t540 _ A12.out).mono ?_
     rintro e w21 ⟨rfl, hb⟩; refine ⟨_, rfl, ?_⟩; replace BK534 := aM (kB (kl BK534) hb); replace BK538 := aM (kB (kl BK538) hb); replace HB := aM (bS (bl) hb)
     (try clear hb)
     (try clear hb2)
     (try clear hk)
     (try clear hi)
     refine hK.out _ _ ⟨(kC BK538.out 0).trans rfl, (kC BK538.out 1).trans rfl, (kC BK538.out 2).trans rfl⟩ (fun hHeld => ?_); clear hK K; refine norm_ (a' := ?_) ?_ ?_; rotate_left
     ·show Act.put _ (some 36) _ = _
      simp only [Act.put, sA, sB, sC, i64_w, i32_w]; rfl
     refine one_ (i := 11) (N := some 39) (ba 13 4095) rfl rfl (one_of HT_.out (by kernel_rfl)) (by decide) (fun K hK => ?_); refine goes_ Try.func79 (by kernel_rfl) rfl #[.string t540, .string ((rd_T63 l1_1 x5_1).f1)] (by rfl) rfl rfl (by (try simp only [List.map_toArray, List.map_cons, List.map_nil]); first | done | rfl | (simp only [List.length_drop, List.length_take]; rfl)) ?_
     with_reducible refine (mapmakerref02_PutText.calls k1 t540 ((rd_T63 l1_1 x5_1).f1) t541 _ A13.out).mono ?_
     rintro e w22 ⟨rfl, hb⟩; refine ⟨_, rfl, ?_⟩; replace BK534 := aM (kB (kl BK534) hb); replace BK538 := aM (kB (kl BK538) hb); replace HB := aM (bS (bl) hb)
     (try clear hb)
     (try clear hb2)
     (try clear hk)
     (try clear hi)
     refine hK.out _ _ ⟨(kC BK538.out 0).trans rfl, (kC BK538.out 1).trans rfl, (kC BK538.out 2).trans rfl⟩ (fun hHeld => ?_); clear hK K; refine norm_ (a' := ?_) ?_ ?_; rotate_left
     ·show Act.put _ (some 39) _ = _
      simp only [Act.put, sA, sB, sC, i64_w, i32_w]; rfl
     refine pu 12 0 (ba 13 8191) ?_; refine done_ (done_of HT_.out (by kernel_rfl)) ?_
     try go_wp2
     go_roundg k1
     case measure => have := HK1.out; omega
     case rel => exact ⟨(t541), (wrap64 (x5_1 + 1)), (by first | rfl | (simp; done) | (simp [*]; done)), (by first | rfl | (simp; done) | (simp [*]; done)), H', ⟨by have := HK1.out; omega⟩, ⟨kl BK534⟩, ⟨bl⟩⟩
    ·rw [if_neg c10] at H; exact absurd H (by simp)
   ·rw [if_neg c9] at H; have c9b0 : decide (x5_1 < (l1_1.length : Int)) = false := decide_eq_false c9; clear c9; replace H := Option.bind_eq_some_iff.mp H; obtain ⟨t542, A230, H⟩ := H; (try dsimp only at H); have A23 := aM A230; clear A230; obtain rfl := Option.some.inj H; have hz24 := bc3 BK534
    go_wp2_with (first | ((with_reducible refine gate_callee (f := 78) rfl ?_); refine gL (some 43) Try.func78 #[.string x0_1, .slice A1_2 l1_2.length c1_2] ?_; (with_reducible refine (mapmakerref16_putTags.calls k1 x0_1 _ _ l1_2 t542 _ ?side1 ?side2 A23.out).mono ?_); (case side1 => exact cl HR1_2); (case side2 => exact HC1_2.out); rintro e w25 ⟨rfl, hb⟩; refine ⟨_, rfl, ?_⟩; replace HB := aM (bS (bl) hb); clear BK534; (try clear hb)))
    go_ret; exact ⟨by first | rfl | (simp [errW_none, errW_some] <;> rfl) | (simp [*, errW_none, errW_some] <;> rfl), bl⟩
end Go.Proofs.Ytefambkodalomaa.PAll
