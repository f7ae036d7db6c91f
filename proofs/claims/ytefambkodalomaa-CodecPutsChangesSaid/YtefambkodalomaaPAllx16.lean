-- out of a driver of this session's prover over the kit's print: Lean checks it
import Derived.Test.YtefambkodalomaaPAllx0
namespace Go.Proofs.Ytefambkodalomaa.PAll
open Go.Proofs.YtefambkodalomaaG Go.Shelf Go.Lib
open Go.RowKit Go.Proofs.YtefambkodalomaaW.PrintWords Go.Proofs.YtefambkodalomaaW.PrintLast Go.Proofs.YtefambkodalomaaW.PrintMore
attribute [local go_sem] max2_int min2_int max_two min_two max_three min_three max_four min_four   -- for this text's walks alone
set_option linter.unusedVariables false
set_option linter.unusedSimpArgs false
def mapmakerref02_PutUint.l0 : Nat → ByteArray → Int → Option (ByteArray)
 | 0, _, _ => none
 | k + 1, x0, x1 => if x1 ≥ 128 then ((some (([(IntKind.u64.wrap (128 + (Int.tmod x1 128))) % 256] : List Int) : List Int)).bind fun y509 => (if x0.size + (strOfNums y509).size ≤ 9223372036854775807 then (mapmakerref02_PutUint.l0 k (x0 ++ (strOfNums y509)) (IntKind.u64.wrap (Int.tdiv x1 128))) else (none))) else ((some (([(x1) % 256] : List Int) : List Int)).bind fun y512 => (if x0.size + (strOfNums y512).size ≤ 9223372036854775807 then (some (x0 ++ (strOfNums y512))) else (none)))
def mapmakerref02_PutUint.f (k : Nat) (a0 : ByteArray) (a1 : Int) : Option (ByteArray) := mapmakerref02_PutUint.l0 k a0 a1
theorem mapmakerref02_PutUint.mono_l : ∀ k, (∀ y0 y1, LeO (mapmakerref02_PutUint.l0 k y0 y1) (mapmakerref02_PutUint.l0 (k + 1) y0 y1))
 | 0 => fun _ _ r h => by simp [mapmakerref02_PutUint.l0] at h
 | k + 1 => by
  have ih0 := mapmakerref02_PutUint.mono_l k
  ·intro y0 y1
   unfold mapmakerref02_PutUint.l0
   repeat' first
   | (with_reducible exact ih0 _ _)
   | (with_reducible exact LeO.refl _)
   | (with_reducible exact LeO.none _)
   | (with_reducible refine LeO.ite ?_ ?_)
   | (with_reducible refine LeO.eB ?_ (fun _ => ?_))
   | (with_reducible refine LeO.bind ?_ (fun _ => ?_))
   | exact ih0 _ _
   | exact LeO.none _
   | refine LeO.ite ?_ ?_
   | refine LeO.bind ?_ (fun _ => ?_)
theorem mapmakerref02_PutUint.mono : ∀ a0 a1 k, LeO (mapmakerref02_PutUint.f k a0 a1) (mapmakerref02_PutUint.f (k + 1) a0 a1) := by
 intro a0 a1 k; have ih0 := mapmakerref02_PutUint.mono_l k; unfold mapmakerref02_PutUint.f
 repeat' first
   | (with_reducible exact ih0 _ _)
   | (with_reducible exact LeO.refl _)
   | (with_reducible exact LeO.none _)
   | (with_reducible refine LeO.ite ?_ ?_)
   | (with_reducible refine LeO.eB ?_ (fun _ => ?_))
   | (with_reducible refine LeO.bind ?_ (fun _ => ?_))
   | exact ih0 _ _
   | exact LeO.none _
   | refine LeO.ite ?_ ?_
   | refine LeO.bind ?_ (fun _ => ?_)
set_option maxHeartbeats 8000000 in
set_option maxRecDepth 100000 in
theorem mapmakerref02_PutUint.calls (k : Nat) (a0 : ByteArray) (a1 : Int) (r : ByteArray) (w : World) (h : mapmakerref02_PutUint.f k a0 a1 = some r) :
  Calls Try.prog 31 #[.string a0, .int .u64 a1] w fun e w' => e = .returned (.string r) ∧ Below w.heap.size w w' := by
 have HB := aM (Below.refl w.heap.size w); have H : (mapmakerref02_PutUint.l0 k a0 a1) = some r := h; clear h; have H' := aM H; clear H; go_enter Try.func31, Try.ntmps31
 go_wp2
 go_loopg [0, 1] k (fun kq v0 v1 w' => ∃ (x0_1 : ByteArray) (x1_1 : Int), v0 = .string x0_1 ∧ v1 = .int .u64 x1_1 ∧ Aside0 (mapmakerref02_PutUint.l0 kq x0_1 x1_1 = some r) ∧ Aside0 (kq ≤ k) ∧ Aside0 (Below w.heap.size w w'))
 case atStart => exact ⟨(a0), (a1), (by first | rfl | (simp; done) | (simp [*]; done)), (by first | rfl | (simp; done) | (simp [*]; done)), H', ⟨Nat.le_refl _⟩, ⟨bl⟩⟩
 case round =>
  clear H'; obtain ⟨x0_1, x1_1, rfl, rfl, HA, HK1, HB⟩ := hrel
  cases gk with
  | zero => exact absurd HA.out (by simp [mapmakerref02_PutUint.l0])
  | succ k1 =>
   have H := HA.out; clear HA; simp only [mapmakerref02_PutUint.l0] at H
   by_cases c3 : x1_1 ≥ 128
   ·rw [if_pos c3] at H; have c3b0 : decide (128 ≤ x1_1) = true := decide_eq_true c3; clear c3; obtain ⟨y509, hy509⟩ : ∃ y_ : List Int, y_ = (([(IntKind.u64.wrap (128 + (Int.tmod x1_1 128))) % 256] : List Int)) := ⟨_, rfl⟩; replace H : (if x0_1.size + (strOfNums y509).size ≤ 9223372036854775807 then (mapmakerref02_PutUint.l0 k1 (x0_1 ++ (strOfNums y509)) (IntKind.u64.wrap (Int.tdiv x1_1 128))) else (none)) = some r := by first | (rw [hy509]; with_reducible exact H) | (have H2_ := (Option.bind_some _ _).symm.trans H; rw [hy509]; with_reducible exact H2_) | (have H2_ := (Option.bind_some _ _).symm.trans H; with_reducible exact H2_) | with_reducible exact H | (rw [hy509]; exact H) | exact H
    have Ny509 := aM hy509; clear hy509
    by_cases c4 : x0_1.size + (strOfNums y509).size ≤ 9223372036854775807
    ·rw [if_pos c4] at H; have c4b0 := eq_true c4; have c4b1 : decide (x0_1.size + (strOfNums y509).size ≤ 9223372036854775807) = true := decide_eq_true c4
     try have c4b2 : (9223372036854775807 < x0_1.size + (strOfNums y509).size) = False := eq_false (Nat.not_lt.2 c4)
     have H' := aM H; clear H
     go_wp2_with (first | ((with_reducible refine gate_dst (N := 12) rfl ?_); refine Kd.R_lit (Kd.int .u8) _ 5 ?hg (N := 12) ?hd (xs := ([(IntKind.u64.wrap (128 + (Int.tmod x1_1 128))) % 256] : List Int)) (inner := [.int .u8 ((IntKind.u64.wrap (128 + (Int.tmod x1_1 128))) % 256)]) (ok := fun _ => True) (okp := fun _ => True) ?hr ?hp (fun _ hk => hk) trivial (Below.refl _ _) (Nat.le_refl _) (by simp) ?_; (case hd => rfl); (case hg => rfl); (case hr => first | (go_simp; done) | (go_simp; rfl)); (case hp => exact (Reps.one (show Kd.M (Kd.int .u8) _ _ _ ((IntKind.u64.wrap (128 + (Int.tmod x1_1 128))) % 256) [.int .u8 ((IntKind.u64.wrap (128 + (Int.tmod x1_1 128))) % 256)] from rfl) (Reps.none _ _))); intro v510 w5 ho6 hb hg_ hnew_; clear hg_ hnew_; (first | rw [← Ny509.out] at ho6 | (simp only [Int.reduceToNat] at ho6; rw [← Ny509.out] at ho6)); have HO511 := aM (Kd.R_lower ho6 (below_size (bl))); replace HB := aM (bS (bl) hb); clear hb ho6; have hcv7 := own_string (P := Try.prog) Try.underlying137 Try.underlying5 Try.underlying9 (Kd.own_of_R HO511.out)))
     go_roundg k1
     case measure => have := HK1.out; omega
     case rel => exact ⟨(x0_1 ++ (strOfNums y509)), (IntKind.u64.wrap (Int.tdiv x1_1 128)), (by first | rfl | (simp; done) | (simp [*]; done)), (by first | rfl | (simp; done) | (simp [*]; done)), H', ⟨by have := HK1.out; omega⟩, ⟨bl⟩⟩
    ·rw [if_neg c4] at H; exact absurd H (by simp)
   ·rw [if_neg c3] at H; have c3b0 : decide (128 ≤ x1_1) = false := decide_eq_false c3; clear c3; obtain ⟨y512, hy512⟩ : ∃ y_ : List Int, y_ = (([(x1_1) % 256] : List Int)) := ⟨_, rfl⟩; replace H : (if x0_1.size + (strOfNums y512).size ≤ 9223372036854775807 then (some (x0_1 ++ (strOfNums y512))) else (none)) = some r := by first | (rw [hy512]; with_reducible exact H) | (have H2_ := (Option.bind_some _ _).symm.trans H; rw [hy512]; with_reducible exact H2_) | (have H2_ := (Option.bind_some _ _).symm.trans H; with_reducible exact H2_) | with_reducible exact H | (rw [hy512]; exact H) | exact H
    have Ny512 := aM hy512; clear hy512
    by_cases c8 : x0_1.size + (strOfNums y512).size ≤ 9223372036854775807
    ·rw [if_pos c8] at H; have c8b0 := eq_true c8; have c8b1 : decide (x0_1.size + (strOfNums y512).size ≤ 9223372036854775807) = true := decide_eq_true c8
     try have c8b2 : (9223372036854775807 < x0_1.size + (strOfNums y512).size) = False := eq_false (Nat.not_lt.2 c8)
     obtain rfl := Option.some.inj H
     go_wp2_with (first | ((with_reducible refine gate_dst (N := 20) rfl ?_); refine Kd.R_lit (Kd.int .u8) _ 5 ?hg (N := 20) ?hd (xs := ([(x1_1) % 256] : List Int)) (inner := [.int .u8 ((x1_1) % 256)]) (ok := fun _ => True) (okp := fun _ => True) ?hr ?hp (fun _ hk => hk) trivial (Below.refl _ _) (Nat.le_refl _) (by simp) ?_; (case hd => rfl); (case hg => rfl); (case hr => first | (go_simp; done) | (go_simp; rfl)); (case hp => exact (Reps.one (show Kd.M (Kd.int .u8) _ _ _ ((x1_1) % 256) [.int .u8 ((x1_1) % 256)] from rfl) (Reps.none _ _))); intro v513 w9 ho10 hb hg_ hnew_; clear hg_ hnew_; (first | rw [← Ny512.out] at ho10 | (simp only [Int.reduceToNat] at ho10; rw [← Ny512.out] at ho10)); have HO514 := aM (Kd.R_lower ho10 (below_size (bl))); replace HB := aM (bS (bl) hb); clear hb ho10; have hcv11 := own_string (P := Try.prog) Try.underlying137 Try.underlying5 Try.underlying9 (Kd.own_of_R HO514.out)))
     go_ret; exact ⟨by first | rfl | (simp [errW_none, errW_some] <;> rfl) | (simp [*, errW_none, errW_some] <;> rfl), bl⟩
    ·rw [if_neg c8] at H; exact absurd H (by simp)
def mapmakerref02_PutInt.f (k : Nat) (a0 : ByteArray) (a1 : Int) : Option (ByteArray) := if a1 < 0 then ((mapmakerref02_PutUint.f k a0 (IntKind.u64.wrap ((IntKind.u64.wrap ((IntKind.u64.wrap (wrap64 (-(wrap64 (a1 + 1))))) * 2)) + 1))).bind fun t515 => (some t515)) else ((mapmakerref02_PutUint.f k a0 (IntKind.u64.wrap ((IntKind.u64.wrap (a1)) * 2))).bind fun t516 => (some t516))
theorem mapmakerref02_PutInt.mono : ∀ a0 a1 k, LeO (mapmakerref02_PutInt.f k a0 a1) (mapmakerref02_PutInt.f (k + 1) a0 a1) := by
 intro a0 a1 k; unfold mapmakerref02_PutInt.f
 repeat' first
   | (with_reducible exact mapmakerref02_PutUint.mono _ _ _)
   | (with_reducible exact LeO.refl _)
   | (with_reducible exact LeO.none _)
   | (with_reducible refine LeO.ite ?_ ?_)
   | (with_reducible refine LeO.eB ?_ (fun _ => ?_))
   | (with_reducible refine LeO.bind ?_ (fun _ => ?_))
   | exact mapmakerref02_PutUint.mono _ _ _
   | exact LeO.none _
   | refine LeO.ite ?_ ?_
   | refine LeO.bind ?_ (fun _ => ?_)
set_option maxHeartbeats 8000000 in
set_option maxRecDepth 100000 in
theorem mapmakerref02_PutInt.calls (k : Nat) (a0 : ByteArray) (a1 : Int) (r : ByteArray) (w : World) (h : mapmakerref02_PutInt.f k a0 a1 = some r) :
  Calls Try.prog 53 #[.string a0, .int .i64 a1] w fun e w' => e = .returned (.string r) ∧ Below w.heap.size w w' := by
 have HB := aM (Below.refl w.heap.size w); have H : (if a1 < 0 then ((mapmakerref02_PutUint.f k a0 (IntKind.u64.wrap ((IntKind.u64.wrap ((IntKind.u64.wrap (wrap64 (-(wrap64 (a1 + 1))))) * 2)) + 1))).bind fun t515 => (some t515)) else ((mapmakerref02_PutUint.f k a0 (IntKind.u64.wrap ((IntKind.u64.wrap (a1)) * 2))).bind fun t516 => (some t516))) = some r := h; clear h
 by_cases c3 : a1 < 0
 ·rw [if_pos c3] at H; have c3b0 : decide (a1 < 0) = true := decide_eq_true c3; clear c3; replace H := Option.bind_eq_some_iff.mp H; obtain ⟨t515, A40, H⟩ := H; (try dsimp only at H); have A4 := aM A40; clear A40; obtain rfl := Option.some.inj H; go_enter Try.func53, Try.ntmps53
  go_wp2_with (first | ((with_reducible refine gate_callee (f := 31) rfl ?_); refine gL (some 14) Try.func31 #[.string a0, .int .u64 (IntKind.u64.wrap ((IntKind.u64.wrap ((IntKind.u64.wrap (wrap64 (-(wrap64 (a1 + 1))))) * 2)) + 1))] ?_; (with_reducible refine (mapmakerref02_PutUint.calls k a0 (IntKind.u64.wrap ((IntKind.u64.wrap ((IntKind.u64.wrap (wrap64 (-(wrap64 (a1 + 1))))) * 2)) + 1)) t515 _ A4.out).mono ?_); rintro e w5 ⟨rfl, hb⟩; refine ⟨_, rfl, ?_⟩; replace HB := aM (bS (bl) hb); (try clear hb)))
  go_ret; exact ⟨by first | rfl | (simp [errW_none, errW_some] <;> rfl) | (simp [*, errW_none, errW_some] <;> rfl), bl⟩
 ·rw [if_neg c3] at H; have c3b0 : decide (a1 < 0) = false := decide_eq_false c3; clear c3; replace H := Option.bind_eq_some_iff.mp H; obtain ⟨t516, A60, H⟩ := H; (try dsimp only at H); have A6 := aM A60; clear A60; obtain rfl := Option.some.inj H; go_enter Try.func53, Try.ntmps53
  go_wp2_with (first | ((with_reducible refine gate_callee (f := 31) rfl ?_); refine gL (some 19) Try.func31 #[.string a0, .int .u64 (IntKind.u64.wrap ((IntKind.u64.wrap (a1)) * 2))] ?_; (with_reducible refine (mapmakerref02_PutUint.calls k a0 (IntKind.u64.wrap ((IntKind.u64.wrap (a1)) * 2)) t516 _ A6.out).mono ?_); rintro e w7 ⟨rfl, hb⟩; refine ⟨_, rfl, ?_⟩; replace HB := aM (bS (bl) hb); (try clear hb)))
  go_ret; exact ⟨by first | rfl | (simp [errW_none, errW_some] <;> rfl) | (simp [*, errW_none, errW_some] <;> rfl), bl⟩
def mapmakerref02_PutText.f (k : Nat) (a0 : ByteArray) (a1 : ByteArray) : Option (ByteArray) := (mapmakerref02_PutUint.f k a0 (IntKind.u64.wrap ((a1.size : Int)))).bind fun t517 => (if t517.size + a1.size ≤ 9223372036854775807 then (some (t517 ++ a1)) else (none))
theorem mapmakerref02_PutText.mono : ∀ a0 a1 k, LeO (mapmakerref02_PutText.f k a0 a1) (mapmakerref02_PutText.f (k + 1) a0 a1) := by
 intro a0 a1 k; unfold mapmakerref02_PutText.f
 repeat' first
   | (with_reducible exact mapmakerref02_PutUint.mono _ _ _)
   | (with_reducible exact LeO.refl _)
   | (with_reducible exact LeO.none _)
   | (with_reducible refine LeO.ite ?_ ?_)
   | (with_reducible refine LeO.eB ?_ (fun _ => ?_))
   | (with_reducible refine LeO.bind ?_ (fun _ => ?_))
   | exact mapmakerref02_PutUint.mono _ _ _
   | exact LeO.none _
   | refine LeO.ite ?_ ?_
   | refine LeO.bind ?_ (fun _ => ?_)
set_option maxHeartbeats 8000000 in
set_option maxRecDepth 100000 in
theorem mapmakerref02_PutText.calls (k : Nat) (a0 : ByteArray) (a1 : ByteArray) (r : ByteArray) (w : World) (h : mapmakerref02_PutText.f k a0 a1 = some r) :
  Calls Try.prog 79 #[.string a0, .string a1] w fun e w' => e = .returned (.string r) ∧ Below w.heap.size w w' := by
 have HB := aM (Below.refl w.heap.size w); have H : ((mapmakerref02_PutUint.f k a0 (IntKind.u64.wrap ((a1.size : Int)))).bind fun t517 => (if t517.size + a1.size ≤ 9223372036854775807 then (some (t517 ++ a1)) else (none))) = some r := h; clear h; replace H := Option.bind_eq_some_iff.mp H; obtain ⟨t517, A30, H⟩ := H; (try dsimp only at H); have A3 := aM A30; clear A30
 by_cases c4 : t517.size + a1.size ≤ 9223372036854775807
 ·rw [if_pos c4] at H; have c4b0 := eq_true c4; have c4b1 : decide (t517.size + a1.size ≤ 9223372036854775807) = true := decide_eq_true c4
  try have c4b2 : (9223372036854775807 < t517.size + a1.size) = False := eq_false (Nat.not_lt.2 c4)
  obtain rfl := Option.some.inj H; have hw_ : IntKind.u64.wrap (a1.size : Int) = (a1.size : Int) := by simp only [IntKind.wrap_u64]; exact Int.emod_eq_of_lt (by omega) (by omega)
  rw [hw_] at A3; go_enter Try.func79, Try.ntmps79
  go_wp2_with (first | ((with_reducible refine gate_callee (f := 31) rfl ?_); refine gL (some 9) Try.func31 #[.string a0, .int .u64 ((a1.size : Int))] ?_; (with_reducible refine (mapmakerref02_PutUint.calls k a0 ((a1.size : Int)) t517 _ A3.out).mono ?_); rintro e w5 ⟨rfl, hb⟩; refine ⟨_, rfl, ?_⟩; replace HB := aM (bS (bl) hb); (try clear hb)))
  go_ret; exact ⟨by first | rfl | (simp [errW_none, errW_some] <;> rfl) | (simp [*, errW_none, errW_some] <;> rfl), bl⟩
 ·rw [if_neg c4] at H; exact absurd H (by simp)
def mapmakerref16_putTags.l0 : Nat → ByteArray → List (S130) → Int → Option (ByteArray)
 | 0, _, _, _ => none
 | k + 1, x0, x1, x5 => if x5 < (x1.length : Int) then (if 0 ≤ x5 then ((mapmakerref02_PutText.f k x0 ((rd_T130 x1 x5).f0)).bind fun t520 => ((mapmakerref02_PutText.f k t520 ((rd_T130 x1 x5).f1)).bind fun t522 => (mapmakerref16_putTags.l0 k t522 x1 (wrap64 (x5 + 1))))) else (none)) else (some x0)
def mapmakerref16_putTags.f (k : Nat) (a0 : ByteArray) (l1 : List (S130)) : Option (ByteArray) := (mapmakerref02_PutUint.f k a0 (IntKind.u64.wrap ((l1.length : Int)))).bind fun t518 => (mapmakerref16_putTags.l0 k t518 l1 0)
theorem mapmakerref16_putTags.mono_l : ∀ k, (∀ y0 y1 y2, LeO (mapmakerref16_putTags.l0 k y0 y1 y2) (mapmakerref16_putTags.l0 (k + 1) y0 y1 y2))
 | 0 => fun _ _ _ r h => by simp [mapmakerref16_putTags.l0] at h
 | k + 1 => by
  have ih0 := mapmakerref16_putTags.mono_l k
  ·intro y0 y1 y2
   unfold mapmakerref16_putTags.l0
   repeat' first
   | (with_reducible exact ih0 _ _ _)
   | (with_reducible exact mapmakerref02_PutText.mono _ _ _)
   | (with_reducible exact mapmakerref02_PutUint.mono _ _ _)
   | (with_reducible exact LeO.refl _)
   | (with_reducible exact LeO.none _)
   | (with_reducible refine LeO.ite ?_ ?_)
   | (with_reducible refine LeO.eB ?_ (fun _ => ?_))
   | (with_reducible refine LeO.bind ?_ (fun _ => ?_))
   | exact ih0 _ _ _
   | exact mapmakerref02_PutText.mono _ _ _
   | exact mapmakerref02_PutUint.mono _ _ _
   | exact LeO.none _
   | refine LeO.ite ?_ ?_
   | refine LeO.bind ?_ (fun _ => ?_)
theorem mapmakerref16_putTags.mono : ∀ a0 a1 k, LeO (mapmakerref16_putTags.f k a0 a1) (mapmakerref16_putTags.f (k + 1) a0 a1) := by
 intro a0 a1 k; have ih0 := mapmakerref16_putTags.mono_l k; unfold mapmakerref16_putTags.f
 repeat' first
   | (with_reducible exact ih0 _ _ _)
   | (with_reducible exact mapmakerref02_PutText.mono _ _ _)
   | (with_reducible exact mapmakerref02_PutUint.mono _ _ _)
   | (with_reducible exact LeO.refl _)
   | (with_reducible exact LeO.none _)
   | (with_reducible refine LeO.ite ?_ ?_)
   | (with_reducible refine LeO.eB ?_ (fun _ => ?_))
   | (with_reducible refine LeO.bind ?_ (fun _ => ?_))
   | exact ih0 _ _ _
   | exact mapmakerref02_PutText.mono _ _ _
   | exact mapmakerref02_PutUint.mono _ _ _
   | exact LeO.none _
   | refine LeO.ite ?_ ?_
   | refine LeO.bind ?_ (fun _ => ?_)
def mapmakerref16_putTags.T5 : Bool × List (List Nat × List Nat) := (true, [([], []), ([], []), ([], []), ([1, 2], [1, 2]), ([3], [3]), ([4], [4]), ([0, 5], [0, 5]), ([], []), ([], []), ([7, 8], [7, 8]), ([9], [9]), ([10], [10]), ([6, 11, 6], [6, 11]), ([12, 12, 0, 1, 2, 3, 4, 5, 6, 7, 8, 9, 10, 11, 12], [0, 12])])
def mapmakerref16_putTags.B5 : List Nat := [0, 0, 0, 6, 14, 30, 63, 0, 0, 384, 896, 1920, 4095, 8191]
theorem mapmakerref16_putTags.tab5 : rtab .any (opsOf Try.f78 5) = mapmakerref16_putTags.T5 := by kernel_rfl
theorem mapmakerref16_putTags.bits5 : waitsOk mapmakerref16_putTags.T5.2 mapmakerref16_putTags.B5 = true := by kernel_rfl
set_option maxHeartbeats 8000000 in
set_option maxRecDepth 100000 in
theorem mapmakerref16_putTags.calls (k : Nat) (a0 : ByteArray) (A1 : Option Addr) (c1 : Nat) (l1 : List (S130)) (r : ByteArray) (w : World) (hr1 : Kd.C k130 w A1 l1.length l1) (hc1 : l1.length ≤ c1) (h : mapmakerref16_putTags.f k a0 l1 = some r) :
  Calls Try.prog 78 #[.string a0, .slice A1 l1.length c1] w fun e w' => e = .returned (.string r) ∧ Below w.heap.size w w' := by
 have HR1 := aM hr1; have HC1 := aM hc1; clear hr1 hc1; have HB := aM (Below.refl w.heap.size w); have H : ((mapmakerref02_PutUint.f k a0 (IntKind.u64.wrap ((l1.length : Int)))).bind fun t518 => (mapmakerref16_putTags.l0 k t518 l1 0)) = some r := h; clear h; replace H := Option.bind_eq_some_iff.mp H; obtain ⟨t518, A30, H⟩ := H; (try dsimp only at H); have A3 := aM A30; clear A30; have H' := aM H; clear H; go_enter Try.func78, Try.ntmps78
 go_wp2_with (first | ((with_reducible refine gate_callee (f := 31) rfl ?_); refine gL (some 10) Try.func31 #[.string a0, .int .u64 (IntKind.u64.wrap ((l1.length : Int)))] ?_; (with_reducible refine (mapmakerref02_PutUint.calls k a0 (IntKind.u64.wrap ((l1.length : Int))) t518 _ A3.out).mono ?_); rintro e w4 ⟨rfl, hb⟩; refine ⟨_, rfl, ?_⟩; replace HB := aM (bS (bl) hb); (try clear hb)))
 go_loopg [0, 5] k (fun kq v0 v5 w' => ∃ (x0_1 : ByteArray) (x5_1 : Int), v0 = .string x0_1 ∧ v5 = .int .i64 x5_1 ∧ Aside0 (mapmakerref16_putTags.l0 kq x0_1 l1 x5_1 = some r) ∧ Aside0 (kq ≤ k) ∧ Aside0 (Below w.heap.size w w'))
 case atStart => exact ⟨(t518), (0), (by first | rfl | (simp; done) | (simp [*]; done)), (by first | rfl | (simp; done) | (simp [*]; done)), H', ⟨Nat.le_refl _⟩, ⟨bl⟩⟩
 case round =>
  clear H'; (try clear c1); obtain ⟨x0_1, x5_1, rfl, rfl, HA, HK1, HB⟩ := hrel
  cases gk with
  | zero => exact absurd HA.out (by simp [mapmakerref16_putTags.l0])
  | succ k1 =>
   have H := HA.out; clear HA; simp only [mapmakerref16_putTags.l0] at H
   by_cases c5 : x5_1 < (l1.length : Int)
   ·rw [if_pos c5] at H; have c5b0 : decide (x5_1 < (l1.length : Int)) = true := decide_eq_true c5; clear c5
    by_cases c6 : 0 ≤ x5_1
    ·rw [if_pos c6] at H; have c6b0 : decide (0 ≤ x5_1) = true := decide_eq_true c6; clear c6; replace H := Option.bind_eq_some_iff.mp H; obtain ⟨t520, A70, H⟩ := H; (try dsimp only at H); have A7 := aM A70; clear A70; replace H := Option.bind_eq_some_iff.mp H; obtain ⟨t522, A80, H⟩ := H; (try dsimp only at H); have A8 := aM A80; clear A80; have H' := aM H; clear H
     try go_wp2
     replace HB := aM (bD HB.out); have p519 : 0 ≤ (x5_1 : Int) := oT; have q519 : x5_1 < (l1.length : Int) := oT; obtain ⟨ad519, e519, hx519_0, hx519_1⟩ := at_T130 HR1.out x5_1 p519 q519; have hw519_1 := hx519_1; have hw519_0 := hx519_0; cases e519
     replace hx519_0 := hs HB.out hx519_0; replace hx519_1 := hs HB.out hx519_1; replace p519 := eq_true p519; replace q519 := eq_true q519; have p521 : 0 ≤ (x5_1 : Int) := oT; have q521 : x5_1 < (l1.length : Int) := oT; obtain ⟨ad521, e521, hx521_0, hx521_1⟩ := at_T130 HR1.out x5_1 p521 q521; have hw521_1 := hx521_1; have hw521_0 := hx521_0; obtain rfl : ad519 = ad521 := (by injection e521); replace hx521_0 := hs HB.out hx521_0; replace hx521_1 := hs HB.out hx521_1; replace p521 := eq_true p521; replace q521 := eq_true q521; refine start_ (n := 14) (S := fun w' => w'.cell? (ad519.add ((x5_1).toNat * 2)) = some (.string ((rd_T130 l1 x5_1).f0)) ∧ w'.cell? ⟨(ad519.add ((x5_1).toNat * 2)).block, (ad519.add ((x5_1).toNat * 2)).off + 1, none⟩ = some (.string ((rd_T130 l1 x5_1).f1)) ∧ w'.cell? (ad519.add ((x5_1).toNat * 2)) = some (.string ((rd_T130 l1 x5_1).f0)) ∧ w'.cell? ⟨(ad519.add ((x5_1).toNat * 2)).block, (ad519.add ((x5_1).toNat * 2)).off + 1, none⟩ = some (.string ((rd_T130 l1 x5_1).f1))) (ds := []) #[false, false, false, false, false, false, false, false, false, false, false, false, false, false] (by kernel_rfl) rfl rfl ⟨((HB.out.cell (World.block_lt_of_cell? w _ hw519_0)).trans hw519_0), ((HB.out.cell (World.block_lt_of_cell? w _ hw519_1)).trans hw519_1), ((HB.out.cell (World.block_lt_of_cell? w _ hw521_0)).trans hw521_0), ((HB.out.cell (World.block_lt_of_cell? w _ hw521_1)).trans hw521_1)⟩ (fun hHeld => ?_); refine with_tabW mapmakerref16_putTags.tab5 mapmakerref16_putTags.bits5 (fun HT_ HW_ => ?_); generalize wr.drew = w9 at HB hx519_0 hx519_1 hx521_0 hx521_1 hHeld ⊢; refine pu 0 17 (ba 14 1) ?_; refine pu 1 18 (ba 14 3) ?_; refine pu 2 19 (ba 14 7) ?_; refine pu 3 20 (ba 14 15) ?_; refine pu 4 21 (ba 14 31) ?_; refine pu 7 24 (ba 14 159) ?_; refine pu 8 25 (ba 14 415) ?_; refine pu 9 26 (ba 14 927) ?_; refine pu 10 27 (ba 14 1951) ?_; refine tk 5 22 (ba 14 1983) ?_; refine tk 11 28 (ba 14 4031) ?_; refine one_ (i := 6) (N := some 23) (ba 14 4095) rfl rfl (one_of HT_.out (by kernel_rfl)) (by decide) (fun K hK => ?_); refine goes_ Try.func79 (by kernel_rfl) rfl #[.string x0_1, .string ((rd_T130 l1 x5_1).f0)] (by rfl) rfl rfl (by (try simp only [List.map_toArray, List.map_cons, List.map_nil]); first | done | rfl | (simp only [List.length_drop, List.length_take]; rfl)) ?_
     with_reducible refine (mapmakerref02_PutText.calls k1 x0_1 ((rd_T130 l1 x5_1).f0) t520 _ A7.out).mono ?_
     rintro e w10 ⟨rfl, hb⟩; refine ⟨_, rfl, ?_⟩; replace HB := aM (bS (bl) hb)
     (try clear hb)
     (try clear hb2)
     (try clear hk)
     (try clear hi)
     refine hK.out _ _ ⟨((HB.out.cell (World.block_lt_of_cell? w _ hw519_0)).trans hw519_0), ((HB.out.cell (World.block_lt_of_cell? w _ hw519_1)).trans hw519_1), ((HB.out.cell (World.block_lt_of_cell? w _ hw521_0)).trans hw521_0), ((HB.out.cell (World.block_lt_of_cell? w _ hw521_1)).trans hw521_1)⟩ (fun hHeld => ?_); clear hK K; refine norm_ (a' := ?_) ?_ ?_; rotate_left
     ·show Act.put _ (some 23) _ = _
      simp only [Act.put, sA, sB, sC, i64_w, i32_w]; rfl
     refine one_ (i := 12) (N := some 29) (ba 14 8191) rfl rfl (one_of HT_.out (by kernel_rfl)) (by decide) (fun K hK => ?_); refine goes_ Try.func79 (by kernel_rfl) rfl #[.string t520, .string ((rd_T130 l1 x5_1).f1)] (by rfl) rfl rfl (by (try simp only [List.map_toArray, List.map_cons, List.map_nil]); first | done | rfl | (simp only [List.length_drop, List.length_take]; rfl)) ?_
     with_reducible refine (mapmakerref02_PutText.calls k1 t520 ((rd_T130 l1 x5_1).f1) t522 _ A8.out).mono ?_
     rintro e w11 ⟨rfl, hb⟩; refine ⟨_, rfl, ?_⟩; replace HB := aM (bS (bl) hb)
     (try clear hb)
     (try clear hb2)
     (try clear hk)
     (try clear hi)
     refine hK.out _ _ ⟨((HB.out.cell (World.block_lt_of_cell? w _ hw519_0)).trans hw519_0), ((HB.out.cell (World.block_lt_of_cell? w _ hw519_1)).trans hw519_1), ((HB.out.cell (World.block_lt_of_cell? w _ hw521_0)).trans hw521_0), ((HB.out.cell (World.block_lt_of_cell? w _ hw521_1)).trans hw521_1)⟩ (fun hHeld => ?_); clear hK K; refine norm_ (a' := ?_) ?_ ?_; rotate_left
     ·show Act.put _ (some 29) _ = _
      simp only [Act.put, sA, sB, sC, i64_w, i32_w]; rfl
     refine pu 13 0 (ba 14 16383) ?_; refine done_ (done_of HT_.out (by kernel_rfl)) ?_
     try go_wp2
     go_roundg k1
     case measure => have := HK1.out; omega
     case rel => exact ⟨(t522), (wrap64 (x5_1 + 1)), (by first | rfl | (simp; done) | (simp [*]; done)), (by first | rfl | (simp; done) | (simp [*]; done)), H', ⟨by have := HK1.out; omega⟩, ⟨bl⟩⟩
    ·rw [if_neg c6] at H; exact absurd H (by simp)
   ·rw [if_neg c5] at H; have c5b0 : decide (x5_1 < (l1.length : Int)) = false := decide_eq_false c5; clear c5; obtain rfl := Option.some.inj H
    go_wp2
    go_ret; exact ⟨by first | rfl | (simp [errW_none, errW_some] <;> rfl) | (simp [*, errW_none, errW_some] <;> rfl), bl⟩
def mapmakerref16_putNode.f (k : Nat) (a0 : ByteArray) (a1_0 : Int) (a1_1 : Int) (a1_2 : Int) (l1_3 : List (S130)) : Option (ByteArray) := (mapmakerref02_PutInt.f k a0 a1_0).bind fun t524 => ((mapmakerref02_PutInt.f k t524 a1_1).bind fun t525 => ((mapmakerref02_PutInt.f k t525 a1_2).bind fun t526 => ((mapmakerref16_putTags.f k t526 l1_3).bind fun t527 => (some t527))))
theorem mapmakerref16_putNode.mono : ∀ a0 a1 a2 a3 a4 k, LeO (mapmakerref16_putNode.f k a0 a1 a2 a3 a4) (mapmakerref16_putNode.f (k + 1) a0 a1 a2 a3 a4) := by
 intro a0 a1 a2 a3 a4 k; unfold mapmakerref16_putNode.f
 repeat' first
   | (with_reducible exact mapmakerref02_PutInt.mono _ _ _)
   | (with_reducible exact mapmakerref16_putTags.mono _ _ _)
   | (with_reducible exact LeO.refl _)
   | (with_reducible exact LeO.none _)
   | (with_reducible refine LeO.ite ?_ ?_)
   | (with_reducible refine LeO.eB ?_ (fun _ => ?_))
   | (with_reducible refine LeO.bind ?_ (fun _ => ?_))
   | exact mapmakerref02_PutInt.mono _ _ _
   | exact mapmakerref16_putTags.mono _ _ _
   | exact LeO.none _
   | refine LeO.ite ?_ ?_
   | refine LeO.bind ?_ (fun _ => ?_)
def mapmakerref16_putNode.T1 : Bool × List (List Nat × List Nat) := (true, [([], []), ([], []), ([1], [1]), ([0, 2], [0, 2]), ([], []), ([4], [4]), ([5], [5]), ([3, 6, 3], [3, 6]), ([], []), ([8], [8]), ([9], [9]), ([7, 10, 7], [7, 10]), ([11, 11, 0, 1, 2, 3, 4, 5, 6, 7, 8, 9, 10, 11], [0, 11])])
def mapmakerref16_putNode.B1 : List Nat := [0, 0, 2, 7, 0, 16, 48, 127, 0, 256, 768, 2047, 4095]
theorem mapmakerref16_putNode.tab1 : rtab .any (opsOf Try.f32 1) = mapmakerref16_putNode.T1 := by kernel_rfl
theorem mapmakerref16_putNode.bits1 : waitsOk mapmakerref16_putNode.T1.2 mapmakerref16_putNode.B1 = true := by kernel_rfl
set_option maxHeartbeats 8000000 in
set_option maxRecDepth 100000 in
theorem mapmakerref16_putNode.calls (k : Nat) (a0 : ByteArray) (a1_0 : Int) (a1_1 : Int) (a1_2 : Int) (A1_3 : Option Addr) (c1_3 : Nat) (l1_3 : List (S130)) (r : ByteArray) (w : World) (hr1_3 : Kd.C k130 w A1_3 l1_3.length l1_3) (hc1_3 : l1_3.length ≤ c1_3) (h : mapmakerref16_putNode.f k a0 a1_0 a1_1 a1_2 l1_3 = some r) :
  Calls Try.prog 32 #[.string a0, .agg #[.int .i64 a1_0, .int .i64 a1_1, .int .i64 a1_2, .slice A1_3 l1_3.length c1_3]] w fun e w' => e = .returned (.string r) ∧ Below w.heap.size w w' := by
 have hu53 := Try.underlying53; have HR1_3 := aM hr1_3; have HC1_3 := aM hc1_3; clear hr1_3 hc1_3; have HB := aM (Below.refl w.heap.size w); have H : ((mapmakerref02_PutInt.f k a0 a1_0).bind fun t524 => ((mapmakerref02_PutInt.f k t524 a1_1).bind fun t525 => ((mapmakerref02_PutInt.f k t525 a1_2).bind fun t526 => ((mapmakerref16_putTags.f k t526 l1_3).bind fun t527 => (some t527))))) = some r := h; clear h; replace H := Option.bind_eq_some_iff.mp H; obtain ⟨t524, A30, H⟩ := H; (try dsimp only at H); have A3 := aM A30; clear A30; replace H := Option.bind_eq_some_iff.mp H; obtain ⟨t525, A40, H⟩ := H; (try dsimp only at H); have A4 := aM A40; clear A40; replace H := Option.bind_eq_some_iff.mp H; obtain ⟨t526, A50, H⟩ := H; (try dsimp only at H); have A5 := aM A50; clear A50; replace H := Option.bind_eq_some_iff.mp H; obtain ⟨t527, A60, H⟩ := H; (try dsimp only at H); have A6 := aM A60; clear A60; obtain rfl := Option.some.inj H; go_enter Try.func32, Try.ntmps32
 try go_wp2_with (first | ((with_reducible refine gate_dst (N := 3) rfl ?_); refine bx (N := 3) (cs := #[.int .i64 a1_0, .int .i64 a1_1, .int .i64 a1_2, .slice A1_3 l1_3.length c1_3]) (t := 53) ?_; intro gb523 hg w7 hbox hb; have BK523 := aM (hbox); have GE523 := aM (gw (w := w) hg); replace HB := aM (bS (bl) hb); clear hb hbox hg))
 replace BK523 := aM (kD BK523.out); replace HB := aM (bD HB.out); refine start_ (n := 13) (S := fun w' => w'.cell? ⟨gb523, 0, none⟩ = some (.int .i64 a1_0) ∧ w'.cell? ⟨gb523, 1, none⟩ = some (.int .i64 a1_1) ∧ w'.cell? ⟨gb523, 2, none⟩ = some (.int .i64 a1_2) ∧ w'.cell? ⟨gb523, 3, none⟩ = some (.slice A1_3 l1_3.length c1_3)) (ds := []) #[false, false, false, false, false, false, false, false, false, false, false, false, false] (by kernel_rfl) rfl rfl ⟨(kC BK523.out 0).trans rfl, (kC BK523.out 1).trans rfl, (kC BK523.out 2).trans rfl, (kC BK523.out 3).trans rfl⟩ (fun hHeld => ?_); refine with_tabW mapmakerref16_putNode.tab1 mapmakerref16_putNode.bits1 (fun HT_ HW_ => ?_); generalize w7.drew = w8 at BK523 HB hHeld ⊢; refine pu 0 5 (ba 13 1) ?_; refine pu 1 6 (ba 13 3) ?_; refine pu 4 9 (ba 13 19) ?_; refine pu 5 10 (ba 13 51) ?_; refine pu 8 13 (ba 13 307) ?_; refine pu 9 14 (ba 13 819) ?_; refine tk 2 7 (ba 13 823) ?_; refine tk 6 11 (ba 13 887) ?_; refine tk 10 15 (ba 13 1911) ?_; refine one_ (i := 3) (N := some 8) (ba 13 1919) rfl rfl (one_of HT_.out (by kernel_rfl)) (by decide) (fun K hK => ?_); refine goes_ Try.func53 (by kernel_rfl) rfl #[.string a0, .int .i64 a1_0] (by rfl) rfl rfl (by (try simp only [List.map_toArray, List.map_cons, List.map_nil]); first | done | rfl | (simp only [List.length_drop, List.length_take]; rfl)) ?_
 with_reducible refine (mapmakerref02_PutInt.calls k a0 a1_0 t524 _ A3.out).mono ?_
 rintro e w9 ⟨rfl, hb⟩; refine ⟨_, rfl, ?_⟩; replace BK523 := aM (kB (kl BK523) hb); replace HB := aM (bS (bl) hb)
 (try clear hb)
 (try clear hb2)
 (try clear hk)
 (try clear hi)
 refine hK.out _ _ ⟨(kC BK523.out 0).trans rfl, (kC BK523.out 1).trans rfl, (kC BK523.out 2).trans rfl, (kC BK523.out 3).trans rfl⟩ (fun hHeld => ?_); clear hK K; refine norm_ (a' := ?_) ?_ ?_; rotate_left
 ·show Act.put _ (some 8) _ = _
  simp only [Act.put, sA, sB, sC, i64_w, i32_w]; rfl
 refine one_ (i := 7) (N := some 12) (ba 13 2047) rfl rfl (one_of HT_.out (by kernel_rfl)) (by decide) (fun K hK => ?_); refine goes_ Try.func53 (by kernel_rfl) rfl #[.string t524, .int .i64 a1_1] (by rfl) rfl rfl (by (try simp only [List.map_toArray, List.map_cons, List.map_nil]); first | done | rfl | (simp only [List.length_drop, List.length_take]; rfl)) ?_
 with_reducible refine (mapmakerref02_PutInt.calls k t524 a1_1 t525 _ A4.out).mono ?_
 rintro e w10 ⟨rfl, hb⟩; refine ⟨_, rfl, ?_⟩; replace BK523 := aM (kB (kl BK523) hb); replace HB := aM (bS (bl) hb)
 (try clear hb)
 (try clear hb2)
 (try clear hk)
 (try clear hi)
 refine hK.out _ _ ⟨(kC BK523.out 0).trans rfl, (kC BK523.out 1).trans rfl, (kC BK523.out 2).trans rfl, (kC BK523.out 3).trans rfl⟩ (fun hHeld => ?_); clear hK K; refine norm_ (a' := ?_) ?_ ?_; rotate_left
 ·show Act.put _ (some 12) _ = _
  simp only [Act.put, sA, sB, sC, i64_w, i32_w]; rfl
 refine one_ (i := 11) (N := some 16) (ba 13 4095) rfl rfl (one_of HT_.out (by kernel_rfl)) (by decide) (fun K hK => ?_); refine goes_ Try.func53 (by kernel_rfl) rfl #[.string t525, .int .i64 a1_2] (by rfl) rfl rfl (by (try simp only [List.map_toArray, List.map_cons, List.map_nil]); first | done | rfl | (simp only [List.length_drop, List.length_take]; rfl)) ?_
 with_reducible refine (mapmakerref02_PutInt.calls k t525 a1_2 t526 _ A5.out).mono ?_
 rintro e w11 ⟨rfl, hb⟩; refine ⟨_, rfl, ?_⟩; replace BK523 := aM (kB (kl BK523) hb); replace HB := aM (bS (bl) hb)
 (try clear hb)
 (try clear hb2)
 (try clear hk)
 (try clear hi)
 refine hK.out _ _ ⟨(kC BK523.out 0).trans rfl, (kC BK523.out 1).trans rfl, (kC BK523.out 2).trans rfl, (kC BK523.out 3).trans rfl⟩ (fun hHeld => ?_); clear hK K; refine norm_ (a' := ?_) ?_ ?_; rotate_left
 ·show Act.put _ (some 16) _ = _
  simp only [Act.put, sA, sB, sC, i64_w, i32_w]; rfl
 refine pu 12 0 (ba 13 8191) ?_; refine done_ (done_of HT_.out (by kernel_rfl)) ?_; have hz12 := bc4 BK523
 try go_wp2_with (first | ((with_reducible refine gate_callee (f := 78) rfl ?_); refine gL (some 20) Try.func78 #[.string t526, .slice A1_3 l1_3.length c1_3] ?_; (with_reducible refine (mapmakerref16_putTags.calls k t526 _ _ l1_3 t527 _ ?side1 ?side2 A6.out).mono ?_); (case side1 => exact cl HR1_3); (case side2 => exact HC1_3.out); rintro e w13 ⟨rfl, hb⟩; refine ⟨_, rfl, ?_⟩; replace HB := aM (bS (bl) hb); clear BK523; (try clear hb)))
 go_ret; exact ⟨by first | rfl | (simp [errW_none, errW_some] <;> rfl) | (simp [*, errW_none, errW_some] <;> rfl), bl⟩
end Go.Proofs.Ytefambkodalomaa.PAll
