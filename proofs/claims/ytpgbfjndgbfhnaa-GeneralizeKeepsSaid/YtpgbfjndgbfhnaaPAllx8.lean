-- out of a driver of this session's prover over the kit's print: Lean checks it
import Derived.Test.YtpgbfjndgbfhnaaPAllx0
import Derived.Test.YtpgbfjndgbfhnaaPAllx5
import Derived.Test.YtpgbfjndgbfhnaaPAllx7
namespace Go.Proofs.Ytpgbfjndgbfhnaa.PAll
open Go.Proofs.YtpgbfjndgbfhnaaG Go.Shelf Go.Lib
open Go.RowKit Go.Proofs.YtpgbfjndgbfhnaaW.PrintWords Go.Proofs.YtpgbfjndgbfhnaaW.PrintLast Go.Proofs.YtpgbfjndgbfhnaaW.PrintMore
attribute [local go_sem] max2_int min2_int max_two min_two max_three min_three max_four min_four   -- for this text's walks alone
set_option linter.unusedVariables false
set_option linter.unusedSimpArgs false
def api_Point_33.f (l0 : List (S40)) (a1 : Int) : Option (List (S40)) := if 0 ≤ a1 then (if a1 < (l0.length : Int) then (if l0.length ≤ 1000000000000 then some (l0.take a1.toNat ++ l0.drop (a1.toNat + 1)) else none) else none) else none
set_option maxHeartbeats 4000000 in
set_option maxRecDepth 100000 in
theorem api_Point_33.calls (A0 : Option Addr) (c0 : Nat) (l0 : List (S40)) (a1 : Int) (r : List (S40)) (w : World) (hr0 : Kd.C k40 w A0 l0.length l0) (hc0 : l0.length ≤ c0) (h : api_Point_33.f l0 a1 = some r) :
  Calls Try.prog 33 #[.slice A0 l0.length c0, .int .i64 a1] w fun e w' => ∃ v0_ : Value, e = .returned (v0_) ∧ Kd.R k40 40 w' w.heap.size (fun _ => True) v0_ r ∧ Below w.heap.size w w' := by
 unfold api_Point_33.f at h
 split at h
 case isFalse => cases h
 split at h
 case isFalse => cases h
 split at h
 case isFalse => cases h
 rename_i h0 h1 hsm
 obtain rfl := Option.some.inj h
 clear h
 obtain ⟨i, rfl⟩ := Int.eq_ofNat_of_zero_le h0
 rw [Int.toNat_natCast]
 obtain ⟨m, hm⟩ : ∃ m, l0.length = m + 1 := ⟨l0.length - 1, by omega⟩
 have him : i ≤ m := by omega
 obtain ⟨ad, rfl, _⟩ := hr0.2.2 (by omega)
 obtain ⟨i0, hi0, _, hsz0, _⟩ := info_parts info40
 obtain ⟨o, hrun1, ho1⟩ := R_make_run (P := Try.prog) k40 (W := w) w.heap.size 40 26 m Try.underlying26 (.agg #[(.int .i64 0), (.int .i64 0)]) 16 info40 rfl (by decide) (by decide) z40 (fun _ => True) (k40_mkM _ _ _ z40) trivial (by omega) (Nat.le_refl _)
 have hb1 : Below w.heap.size w (w.alloc o) := (Below.refl _ w).alloc (Nat.le_refl _) _
 have hT := Kd.C_take (m := i) (Kd.C_below hr0 hb1) (by omega)
 have htl : (l0.take i).length = i := by rw [List.length_take]; omega
 rw [htl] at hT
 obtain ⟨w2, hrun2, ho2, hg2⟩ := R_copy_run (P := Try.prog) k40 w.heap.size 3 26 26 40 Try.underlying26 (by kernel_rfl) (by decide) (.slice (some ⟨w.heap.size, 0, none⟩) m m) _ (l0.take i) 0 i (some ⟨w.heap.size, 0, none⟩) (some ad) m m i i (fun _ => True) (fun _ => False) ho1 hT
  (fun _ _ h => h) (fun k h => h.elim) (by simp only [Nat.min_def]; split <;> omega) (by rw [List.length_replicate]; omega) (fun _ => ⟨_, by rw [Nat.zero_mul], rfl⟩)
 have hb2 : Below w.heap.size w w2 := hb1.grown hg2 hb1.size (fun k hk => by simp [Value.ownBlock] at hk; omega)
 have hb2d : Below w.heap.size w w2.drew := bD hb2
 have ho2d := rB ho2 (bD (Below.refl w2.heap.size w2))
 have hx2 : (List.replicate m z40 : List (S40)).take 0 ++ ((l0.take i).take i ++ (List.replicate m z40).drop (0 + i)) = l0.take i ++ List.replicate (m - i) z40 := by
  rw [List.take_zero, List.nil_append, List.take_take, Nat.min_self, List.drop_replicate, Nat.zero_add]
 rw [hx2] at ho2d
 clear hx2 ho2
 have hx2l : (l0.take i ++ List.replicate (m - i) z40).length = m := by rw [List.length_append, htl, List.length_replicate]; omega
 have hcut1 := cut_from (P := Try.prog) 26 40 .i64 Try.underlying26 hi0 2 hsz0 (some ⟨w.heap.size, 0, none⟩) m m (i : Int) (by omega) (by omega)
 have hcut2 := cut_from (P := Try.prog) 26 40 .i64 Try.underlying26 hi0 2 hsz0 (some ad) (m + 1) c0 ((i : Int) + 1) (by omega) (by omega)
 have ht1 : ((i : Int) + 1).toNat = i + 1 := by omega
 rw [Int.toNat_natCast] at hcut1
 rw [ht1] at hcut2
 have hD := Kd.C_drop (m := i + 1) (c := c0) (Kd.C_below hr0 hb2d) (by omega) hc0
 have hdl : (l0.drop (i + 1)).length = m + 1 - (i + 1) := by rw [List.length_drop]; omega
 rw [hdl] at hD
 obtain ⟨B, hB⟩ : ∃ B, B = (if c0 = i + 1 then some ad else (some ad).map (·.add ((i + 1) * 2))) := ⟨_, rfl⟩
 replace hD : Kd.C k40 w2.drew B (m + 1 - (i + 1)) (l0.drop (i + 1)) := by rw [hB]; exact hD
 rw [← hB] at hcut2
 obtain ⟨A, hA⟩ : ∃ A, A = (if m = i then some (⟨w.heap.size, 0, none⟩ : Addr) else (some (⟨w.heap.size, 0, none⟩ : Addr)).map (·.add (i * 2))) := ⟨_, rfl⟩
 rw [← hA] at hcut1
 obtain ⟨w3, hrun3, ho3, hg3⟩ := R_copy_run (P := Try.prog) k40 w.heap.size 3 26 26 40 Try.underlying26 (by kernel_rfl) (by decide) (.slice (some ⟨w.heap.size, 0, none⟩) m m) _ (l0.drop (i + 1)) i (m - i) A B (m - i) (m - i) (m + 1 - (i + 1)) (c0 - (i + 1)) (fun _ => True) (fun _ => False) ho2d hD
  (fun _ _ h => h) (fun k h => h.elim) (by simp only [Nat.min_def]; split <;> omega) (by rw [hx2l]; omega) (fun hp => ⟨w.heap.size, by rw [hA, if_neg (by omega)]; simp [add_plain] <;> (first | rfl | exact (Nat.mul_one _).symm), rfl⟩)
 have hx3 : (l0.take i ++ List.replicate (m - i) z40 : List (S40)).take i ++ ((l0.drop (i + 1)).take (m - i) ++ (l0.take i ++ List.replicate (m - i) z40).drop (i + (m - i))) = l0.take i ++ l0.drop (i + 1) := by
  rw [List.take_append_of_le_length (by rw [htl]; exact Nat.le_refl _), List.take_take, Nat.min_self, (show (l0.drop (i + 1)).take (m - i) = l0.drop (i + 1) from List.take_of_length_le (by rw [hdl]; omega)), (show (l0.take i ++ List.replicate (m - i) z40).drop (i + (m - i)) = [] from List.drop_eq_nil_of_le (by rw [hx2l]; omega)), List.append_nil]
 rw [hx3] at ho3
 have hb3 : Below w.heap.size w w3 := hb2d.grown hg3 hb2d.size (fun k hk => by simp [Value.ownBlock] at hk; omega)
 have HO3 := aM ho3
 have HB3 := aM hb3
 have HR1 := aM hrun1
 have HR2 := aM hrun2
 have HR3 := aM hrun3
 have hc0' : m + 1 ≤ c0 := by omega
 clear ho3 hb3 hx3 hx2l ho2d hb2d hb2 ho1 hb1 hg2 hg3 hrun1 hrun2 hrun3 hT hD htl hdl hA hB hr0 h1 h0 hi0 hsz0
 rw [hm]
 have HM := aM (show m + 1 ≤ 1000000000000 by omega)
 clear hm hc0 hsm
 have hmb : (m : Int) ≤ 1000000000000 := by have := HM.out; omega
 have hb0 : (0 : Int) ≤ (i : Int) := by omega
 have hb4 : (i : Int) ≤ (m : Int) + 1 := by omega
 have hb5 : (i : Int) ≤ (m : Int) := by omega
 go_enter Try.func33, Try.ntmps33
 go_wp2_with (first | ((with_reducible refine gate_dst (N := 9) rfl ?_); refine ev_make rfl (.tmp 8) (.tmp 8) 26 rfl _ _ rfl rfl HR1.out ?_) | ((with_reducible refine gate_dst (N := 15) rfl ?_); refine ev_copy rfl (.tmp 10) (.tmp 14) 26 26 rfl _ _ rfl rfl HR2.out ?_))
 have mixed : Try.prog.follows Departure.mixedOrders = true := by kernel_rfl
 have hw1 : IntKind.i64.wrap ((i : Int) + 1) = (i : Int) + 1 := by rw [IntKind.wrap_i64]; omega
 have hb1 : (0 : Int) ≤ (i : Int) + 1 := by omega
 have hb2 : (i : Int) + 1 ≤ (m : Int) + 1 := by omega
 go_region_law_o (refine st_copy rfl (.tmp 18) (.tmp 22) 26 26 rfl _ _ (by simp [Act.eval, Act.put]) (by simp [Act.eval, Act.put]) HR3.out ?_)
 go_wp2
 go_ret
 exact ⟨_, rfl, HO3.out, HB3.out⟩
def generalize_without_int.f (l0 : List (Int)) (a1 : Int) : Option (List (Int)) := if 0 ≤ a1 then (if a1 < (l0.length : Int) then (if l0.length ≤ 1000000000000 then some (l0.take a1.toNat ++ l0.drop (a1.toNat + 1)) else none) else none) else none
set_option maxHeartbeats 4000000 in
set_option maxRecDepth 100000 in
theorem generalize_without_int.calls (A0 : Option Addr) (c0 : Nat) (l0 : List (Int)) (a1 : Int) (r : List (Int)) (w : World) (hr0 : Kd.C (Kd.int .i64) w A0 l0.length l0) (hc0 : l0.length ≤ c0) (h : generalize_without_int.f l0 a1 = some r) :
  Calls Try.prog 34 #[.slice A0 l0.length c0, .int .i64 a1] w fun e w' => ∃ v0_ : Value, e = .returned (v0_) ∧ Kd.R (Kd.int .i64) 3 w' w.heap.size (fun _ => True) v0_ r ∧ Below w.heap.size w w' := by
 unfold generalize_without_int.f at h
 split at h
 case isFalse => cases h
 split at h
 case isFalse => cases h
 split at h
 case isFalse => cases h
 rename_i h0 h1 hsm
 obtain rfl := Option.some.inj h
 clear h
 obtain ⟨i, rfl⟩ := Int.eq_ofNat_of_zero_le h0
 rw [Int.toNat_natCast]
 obtain ⟨m, hm⟩ : ∃ m, l0.length = m + 1 := ⟨l0.length - 1, by omega⟩
 have him : i ≤ m := by omega
 obtain ⟨ad, rfl, _⟩ := hr0.2.2 (by omega)
 obtain ⟨i0, hi0, _, hsz0, _⟩ := info_parts info3
 obtain ⟨o, hrun1, ho1⟩ := R_make_run (P := Try.prog) (Kd.int .i64) (W := w) w.heap.size 3 28 m Try.underlying28 (.int .i64 0) 8 info3 rfl (by decide) (by decide) (0 : Int) (fun _ => True) rfl trivial (by omega) (Nat.le_refl _)
 have hb1 : Below w.heap.size w (w.alloc o) := (Below.refl _ w).alloc (Nat.le_refl _) _
 have hT := Kd.C_take (m := i) (Kd.C_below hr0 hb1) (by omega)
 have htl : (l0.take i).length = i := by rw [List.length_take]; omega
 rw [htl] at hT
 obtain ⟨w2, hrun2, ho2, hg2⟩ := R_copy_run (P := Try.prog) (Kd.int .i64) w.heap.size 3 28 28 3 Try.underlying28 (by kernel_rfl) (by decide) (.slice (some ⟨w.heap.size, 0, none⟩) m m) _ (l0.take i) 0 i (some ⟨w.heap.size, 0, none⟩) (some ad) m m i i (fun _ => True) (fun _ => False) ho1 hT
  (fun _ _ h => h) (fun k h => h.elim) (by simp only [Nat.min_def]; split <;> omega) (by rw [List.length_replicate]; omega) (fun _ => ⟨_, by rw [Nat.zero_mul], rfl⟩)
 have hb2 : Below w.heap.size w w2 := hb1.grown hg2 hb1.size (fun k hk => by simp [Value.ownBlock] at hk; omega)
 have hb2d : Below w.heap.size w w2.drew := bD hb2
 have ho2d := rB ho2 (bD (Below.refl w2.heap.size w2))
 have hx2 : (List.replicate m (0 : Int) : List (Int)).take 0 ++ ((l0.take i).take i ++ (List.replicate m (0 : Int)).drop (0 + i)) = l0.take i ++ List.replicate (m - i) (0 : Int) := by
  rw [List.take_zero, List.nil_append, List.take_take, Nat.min_self, List.drop_replicate, Nat.zero_add]
 rw [hx2] at ho2d
 clear hx2 ho2
 have hx2l : (l0.take i ++ List.replicate (m - i) (0 : Int)).length = m := by rw [List.length_append, htl, List.length_replicate]; omega
 have hcut1 := cut_from (P := Try.prog) 28 3 .i64 Try.underlying28 hi0 1 hsz0 (some ⟨w.heap.size, 0, none⟩) m m (i : Int) (by omega) (by omega)
 have hcut2 := cut_from (P := Try.prog) 28 3 .i64 Try.underlying28 hi0 1 hsz0 (some ad) (m + 1) c0 ((i : Int) + 1) (by omega) (by omega)
 have ht1 : ((i : Int) + 1).toNat = i + 1 := by omega
 rw [Int.toNat_natCast] at hcut1
 rw [ht1] at hcut2
 have hD := Kd.C_drop (m := i + 1) (c := c0) (Kd.C_below hr0 hb2d) (by omega) hc0
 have hdl : (l0.drop (i + 1)).length = m + 1 - (i + 1) := by rw [List.length_drop]; omega
 rw [hdl] at hD
 obtain ⟨B, hB⟩ : ∃ B, B = (if c0 = i + 1 then some ad else (some ad).map (·.add ((i + 1) * 1))) := ⟨_, rfl⟩
 replace hD : Kd.C (Kd.int .i64) w2.drew B (m + 1 - (i + 1)) (l0.drop (i + 1)) := by rw [hB]; exact hD
 rw [← hB] at hcut2
 obtain ⟨A, hA⟩ : ∃ A, A = (if m = i then some (⟨w.heap.size, 0, none⟩ : Addr) else (some (⟨w.heap.size, 0, none⟩ : Addr)).map (·.add (i * 1))) := ⟨_, rfl⟩
 rw [← hA] at hcut1
 obtain ⟨w3, hrun3, ho3, hg3⟩ := R_copy_run (P := Try.prog) (Kd.int .i64) w.heap.size 3 28 28 3 Try.underlying28 (by kernel_rfl) (by decide) (.slice (some ⟨w.heap.size, 0, none⟩) m m) _ (l0.drop (i + 1)) i (m - i) A B (m - i) (m - i) (m + 1 - (i + 1)) (c0 - (i + 1)) (fun _ => True) (fun _ => False) ho2d hD
  (fun _ _ h => h) (fun k h => h.elim) (by simp only [Nat.min_def]; split <;> omega) (by rw [hx2l]; omega) (fun hp => ⟨w.heap.size, by rw [hA, if_neg (by omega)]; simp [add_plain] <;> (first | rfl | exact (Nat.mul_one _).symm), rfl⟩)
 have hx3 : (l0.take i ++ List.replicate (m - i) (0 : Int) : List (Int)).take i ++ ((l0.drop (i + 1)).take (m - i) ++ (l0.take i ++ List.replicate (m - i) (0 : Int)).drop (i + (m - i))) = l0.take i ++ l0.drop (i + 1) := by
  rw [List.take_append_of_le_length (by rw [htl]; exact Nat.le_refl _), List.take_take, Nat.min_self, (show (l0.drop (i + 1)).take (m - i) = l0.drop (i + 1) from List.take_of_length_le (by rw [hdl]; omega)), (show (l0.take i ++ List.replicate (m - i) (0 : Int)).drop (i + (m - i)) = [] from List.drop_eq_nil_of_le (by rw [hx2l]; omega)), List.append_nil]
 rw [hx3] at ho3
 have hb3 : Below w.heap.size w w3 := hb2d.grown hg3 hb2d.size (fun k hk => by simp [Value.ownBlock] at hk; omega)
 have HO3 := aM ho3
 have HB3 := aM hb3
 have HR1 := aM hrun1
 have HR2 := aM hrun2
 have HR3 := aM hrun3
 have hc0' : m + 1 ≤ c0 := by omega
 clear ho3 hb3 hx3 hx2l ho2d hb2d hb2 ho1 hb1 hg2 hg3 hrun1 hrun2 hrun3 hT hD htl hdl hA hB hr0 h1 h0 hi0 hsz0
 rw [hm]
 have HM := aM (show m + 1 ≤ 1000000000000 by omega)
 clear hm hc0 hsm
 have hmb : (m : Int) ≤ 1000000000000 := by have := HM.out; omega
 have hb0 : (0 : Int) ≤ (i : Int) := by omega
 have hb4 : (i : Int) ≤ (m : Int) + 1 := by omega
 have hb5 : (i : Int) ≤ (m : Int) := by omega
 go_enter Try.func34, Try.ntmps34
 go_wp2_with (first | ((with_reducible refine gate_dst (N := 9) rfl ?_); refine ev_make rfl (.tmp 8) (.tmp 8) 28 rfl _ _ rfl rfl HR1.out ?_) | ((with_reducible refine gate_dst (N := 15) rfl ?_); refine ev_copy rfl (.tmp 10) (.tmp 14) 28 28 rfl _ _ rfl rfl HR2.out ?_))
 have mixed : Try.prog.follows Departure.mixedOrders = true := by kernel_rfl
 have hw1 : IntKind.i64.wrap ((i : Int) + 1) = (i : Int) + 1 := by rw [IntKind.wrap_i64]; omega
 have hb1 : (0 : Int) ≤ (i : Int) + 1 := by omega
 have hb2 : (i : Int) + 1 ≤ (m : Int) + 1 := by omega
 go_region_law_o (refine st_copy rfl (.tmp 18) (.tmp 22) 28 28 rfl _ _ (by simp [Act.eval, Act.put]) (by simp [Act.eval, Act.put]) HR3.out ?_)
 go_wp2
 go_ret
 exact ⟨_, rfl, HO3.out, HB3.out⟩
def generalize_Line.l0 : Nat → List (S40) → Int → Int → List (S40) → List Int → List (S80) → Option (Int × (List (S40)) × List Int × (List (S80)))
 | 0, _, _, _, _, _, _ => none
 | k + 1, x1, x2, x145000, x145001, x145002, x145003 => (generalize_weakest.f k x145001 x1 x2).bind fun t147 => (if t147 < 0 then (some (x145000, x145001, x145002, x145003)) else ((api_Point_33.f x145001 t147).bind fun t148 => ((generalize_without_int.f x145002 t147).bind fun t151 => (generalize_Line.l0 k x1 x2 x145000 t148 t151 x145003))))
def generalize_Line.f (k : Nat) (a0_0 : Int) (l0_1 : List (S40)) (l0_2 : List Int) (l0_3 : List (S80)) (l1 : List (S40)) (a2 : Int) : Option (Int × (List (S40)) × List Int × (List (S80))) := (generalize_valid.f a0_0 l0_1 l0_2 l0_3).bind fun t146 => (if t146 = true then (generalize_Line.l0 k l1 a2 a0_0 l0_1 l0_2 l0_3) else (some (a0_0, l0_1, l0_2, l0_3)))
theorem generalize_Line.mono_l : ∀ k, (∀ y0 y1 y2 y3 y4 y5, LeO (generalize_Line.l0 k y0 y1 y2 y3 y4 y5) (generalize_Line.l0 (k + 1) y0 y1 y2 y3 y4 y5))
 | 0 => fun _ _ _ _ _ _ r h => by simp [generalize_Line.l0] at h
 | k + 1 => by
  have ih0 := generalize_Line.mono_l k
  ·intro y0 y1 y2 y3 y4 y5
   unfold generalize_Line.l0
   repeat' first
   | (with_reducible exact ih0 _ _ _ _ _ _)
   | (with_reducible exact generalize_weakest.mono _ _ _ _)
   | (with_reducible exact LeO.refl _)
   | (with_reducible exact LeO.none _)
   | (with_reducible refine LeO.ite ?_ ?_)
   | (with_reducible refine LeO.bind ?_ (fun _ => ?_))
   | exact ih0 _ _ _ _ _ _
   | exact generalize_weakest.mono _ _ _ _
   | exact LeO.none _
   | refine LeO.ite ?_ ?_
   | refine LeO.bind ?_ (fun _ => ?_)
theorem generalize_Line.mono : ∀ a0 a1 a2 a3 a4 a5 k, LeO (generalize_Line.f k a0 a1 a2 a3 a4 a5) (generalize_Line.f (k + 1) a0 a1 a2 a3 a4 a5) := by
 intro a0 a1 a2 a3 a4 a5 k
 have ih0 := generalize_Line.mono_l k
 unfold generalize_Line.f
 repeat' first
   | (with_reducible exact ih0 _ _ _ _ _ _)
   | (with_reducible exact generalize_weakest.mono _ _ _ _)
   | (with_reducible exact LeO.refl _)
   | (with_reducible exact LeO.none _)
   | (with_reducible refine LeO.ite ?_ ?_)
   | (with_reducible refine LeO.bind ?_ (fun _ => ?_))
   | exact ih0 _ _ _ _ _ _
   | exact generalize_weakest.mono _ _ _ _
   | exact LeO.none _
   | refine LeO.ite ?_ ?_
   | refine LeO.bind ?_ (fun _ => ?_)
def generalize_Line.T6 : Bool × List (List Nat × List Nat) := (true, [([], []), ([0], [0]), ([], []), ([1, 2], [1, 2]), ([], []), ([4], [4]), ([], []), ([5, 6, 3], [5, 6]), ([0, 1, 2, 3, 4, 5], []), ([8, 3, 7, 0, 1, 2, 3, 4, 5], [3, 8]), ([0, 1, 2, 3, 4, 5, 6, 7, 8, 9], []), ([10, 7, 9, 0, 1, 2, 3, 4, 5, 6, 7, 8, 9], [7, 10])])
def generalize_Line.B6 : List Nat := [0, 1, 0, 7, 0, 16, 0, 127, 63, 511, 1023, 2047]
theorem generalize_Line.tab6 : rtab .any (opsOf Try.f13 6) = generalize_Line.T6 := by kernel_rfl
theorem generalize_Line.bits6 : waitsOk generalize_Line.T6.2 generalize_Line.B6 = true := by kernel_rfl
set_option maxHeartbeats 8000000 in
set_option maxRecDepth 100000 in
theorem generalize_Line.calls (k : Nat) (a0_0 : Int) (P0_1_ : Nat → Prop) (A0_1 : Option Addr) (c0_1 : Nat) (l0_1 : List (S40)) (P0_2_ : Nat → Prop) (A0_2 : Option Addr) (c0_2 : Nat) (l0_2 : List Int) (P0_3_ : Nat → Prop) (A0_3 : Option Addr) (c0_3 : Nat) (l0_3 : List (S80)) (A1 : Option Addr) (c1 : Nat) (l1 : List (S40)) (a2 : Int) (r1 : Int) (r2 : List (S40)) (r3 : List Int) (r4 : List (S80)) (w : World) (hs0_1 : Kd.V k40 40 w w.heap.size (fun k_ => P0_1_ k_) (.slice A0_1 l0_1.length c0_1) l0_1) (hs0_2 : Kd.V (Kd.int .i64) 3 w w.heap.size (fun k_ => P0_2_ k_) (.slice A0_2 l0_2.length c0_2) l0_2) (hs0_3 : Kd.V k80 80 w w.heap.size (fun k_ => P0_3_ k_) (.slice A0_3 l0_3.length c0_3) l0_3) (hr1 : Kd.C k40 w A1 l1.length l1) (hc1 : l1.length ≤ c1) (h : generalize_Line.f k a0_0 l0_1 l0_2 l0_3 l1 a2 = some (r1, r2, r3, r4)) :
  Calls Try.prog 13 #[.agg #[.int .i64 a0_0, .slice A0_1 l0_1.length c0_1, .slice A0_2 l0_2.length c0_2, .slice A0_3 l0_3.length c0_3], .slice A1 l1.length c1, .int .i64 a2] w fun e w' => ∃ v1_ v2_ v3_ : Value, e = .returned (.agg #[.int .i64 r1, v1_, v2_, v3_]) ∧ Kd.V k40 40 w' w.heap.size (fun k_ => ((P0_1_ k_ ∨ P0_2_ k_ ∨ P0_3_ k_) ∨ w.heap.size ≤ k_)) v1_ r2 ∧ Kd.V (Kd.int .i64) 3 w' w.heap.size (fun k_ => ((P0_1_ k_ ∨ P0_2_ k_ ∨ P0_3_ k_) ∨ w.heap.size ≤ k_)) v2_ r3 ∧ Kd.V k80 80 w' w.heap.size (fun k_ => ((P0_1_ k_ ∨ P0_2_ k_ ∨ P0_3_ k_) ∨ w.heap.size ≤ k_)) v3_ r4 ∧ Below w.heap.size w w' := by
 have hu31 := Try.underlying31
 have HO0_1 := aM (show Kd.V k40 40 w w.heap.size (fun k_ => ((P0_1_ k_ ∨ P0_2_ k_ ∨ P0_3_ k_) ∨ w.heap.size ≤ k_)) (.slice A0_1 l0_1.length c0_1) l0_1 from Kd.V_mono hs0_1 (fun k_ hk => .inl (.inl hk)))
 have HO0_2 := aM (show Kd.V (Kd.int .i64) 3 w w.heap.size (fun k_ => ((P0_1_ k_ ∨ P0_2_ k_ ∨ P0_3_ k_) ∨ w.heap.size ≤ k_)) (.slice A0_2 l0_2.length c0_2) l0_2 from Kd.V_mono hs0_2 (fun k_ hk => .inl (.inr (.inl hk))))
 have HO0_3 := aM (show Kd.V k80 80 w w.heap.size (fun k_ => ((P0_1_ k_ ∨ P0_2_ k_ ∨ P0_3_ k_) ∨ w.heap.size ≤ k_)) (.slice A0_3 l0_3.length c0_3) l0_3 from Kd.V_mono hs0_3 (fun k_ hk => .inl (.inr (.inr hk))))
 have HR1 := aM hr1
 have HC1 := aM hc1
 clear hr1 hc1
 have HB := aM (Below.refl w.heap.size w)
 have H : ((generalize_valid.f a0_0 l0_1 l0_2 l0_3).bind fun t146 => (if t146 = true then (generalize_Line.l0 k l1 a2 a0_0 l0_1 l0_2 l0_3) else (some (a0_0, l0_1, l0_2, l0_3)))) = some (r1, r2, r3, r4) := h
 clear h
 replace H := Option.bind_eq_some_iff.mp H
 obtain ⟨t146, A40, H⟩ := H
 replace H : (if t146 = true then (generalize_Line.l0 k l1 a2 a0_0 l0_1 l0_2 l0_3) else (some (a0_0, l0_1, l0_2, l0_3))) = some (r1, r2, r3, r4) := H
 have A4 := aM A40
 clear A40
 by_cases c5 : t146 = true
 ·subst c5
  have H1 : (generalize_Line.l0 k l1 a2 a0_0 l0_1 l0_2 l0_3) = some (r1, r2, r3, r4) := by rw [if_pos rfl] at H; exact H
  clear H
  have H := H1
  clear H1
  have H' := aM H
  clear H
  go_enter Try.func13, Try.ntmps13
  go_wp2_with (first | ((with_reducible refine gate_dst (N := 3) rfl ?_); refine box_event ?hg (N := 3) ?hd (cs := #[.int .i64 a0_0, .slice A0_1 l0_1.length c0_1, .slice A0_2 l0_2.length c0_2, .slice A0_3 l0_3.length c0_3]) (t := 31) ?hr ?_; (case hd => rfl); (case hg => rfl); (case hr => first | (go_simp; done) | (go_simp; rfl)); intro gb144 hg w6 hbox hb; have n0_ := aM (Kd.V_below (Kd.V_elderB (by (with_reducible repeat (first | apply Kd.V_alloc | apply Kd.V_drewN | apply Kd.V_drew)); exact HO0_1.out) gb144 (Nat.le_of_eq hg.symm)) hb); have n1_ := aM (Kd.V_below (Kd.V_elderB (by (with_reducible repeat (first | apply Kd.V_alloc | apply Kd.V_drewN | apply Kd.V_drew)); exact HO0_2.out) gb144 (Nat.le_of_eq hg.symm)) hb); have n2_ := aM (Kd.V_below (Kd.V_elderB (by (with_reducible repeat (first | apply Kd.V_alloc | apply Kd.V_drewN | apply Kd.V_drew)); exact HO0_3.out) gb144 (Nat.le_of_eq hg.symm)) hb); have n3_ := aM (bS (bl) hb); have n4_ := aM (hbox); have n5_ := aM ((by rw [hg]; exact (below_size (bl)) : w.heap.size ≤ gb144)); have n6_ := aM ((by rw [hg]; exact (below_size (bl)) : w.heap.size ≤ gb144)); clear HO0_1 HO0_2 HO0_3 HB; have HO0_1 := n0_; have HO0_2 := n1_; have HO0_3 := n2_; have HB := n3_; have BK144 := n4_; have GW144 := n5_; have GE144 := n6_; clear n0_ n1_ n2_ n3_ n4_ n5_ n6_ hb hbox hg) | ((with_reducible refine gate_dst (N := 6) rfl ?_); refine box_event ?hg (N := 6) ?hd (cs := #[.int .i64 0, .slice none 0 0, .slice none 0 0, .slice none 0 0]) (t := 31) ?hr ?_; (case hd => rfl); (case hg => rfl); (case hr => first | (go_simp; done) | (go_simp; rfl)); intro gb145 hg w7 hbox hb; have n0_ := aM (Kd.V_below (Kd.V_elderB (by (with_reducible repeat (first | apply Kd.V_alloc | apply Kd.V_drewN | apply Kd.V_drew)); exact HO0_1.out) gb145 (Nat.le_of_eq hg.symm)) hb); have n1_ := aM (Kd.V_below (Kd.V_elderB (by (with_reducible repeat (first | apply Kd.V_alloc | apply Kd.V_drewN | apply Kd.V_drew)); exact HO0_2.out) gb145 (Nat.le_of_eq hg.symm)) hb); have n2_ := aM (Kd.V_below (Kd.V_elderB (by (with_reducible repeat (first | apply Kd.V_alloc | apply Kd.V_drewN | apply Kd.V_drew)); exact HO0_3.out) gb145 (Nat.le_of_eq hg.symm)) hb); have n3_ := aM (kB (g := gb144) (o := .cells #[.int .i64 a0_0, .slice A0_1 l0_1.length c0_1, .slice A0_2 l0_2.length c0_2, .slice A0_3 l0_3.length c0_3] 31 (0, 0)) (kl BK144) hb); have n4_ := aM (bS (bl) hb); have n5_ := aM (hbox); have n6_ := aM ((by rw [hg]; exact (below_size (bl)) : w.heap.size ≤ gb145)); have n7_ := aM ((by rw [hg]; exact (below_size (bl)) : w.heap.size ≤ gb145)); have n8_ := aM ((by rw [hg]; exact Nat.ne_of_lt (blk_lt (g := gb144) (o := .cells #[.int .i64 a0_0, .slice A0_1 l0_1.length c0_1, .slice A0_2 l0_2.length c0_2, .slice A0_3 l0_3.length c0_3] 31 (0, 0)) (kl BK144)) : gb144 ≠ gb145)); have n9_ := aM ((by rw [hg]; exact Nat.ne_of_gt (blk_lt (g := gb144) (o := .cells #[.int .i64 a0_0, .slice A0_1 l0_1.length c0_1, .slice A0_2 l0_2.length c0_2, .slice A0_3 l0_3.length c0_3] 31 (0, 0)) (kl BK144)) : gb145 ≠ gb144)); clear HO0_1 HO0_2 HO0_3 BK144 HB; have HO0_1 := n0_; have HO0_2 := n1_; have HO0_3 := n2_; have BK144 := n3_; have HB := n4_; have BK145 := n5_; have GW145 := n6_; have GE145 := n7_; have NB144_145 := n8_; have NB145_144 := n9_; clear n0_ n1_ n2_ n3_ n4_ n5_ n6_ n7_ n8_ n9_ hb hbox hg; have hnb8 := NB144_145.out; have hnc8 := NB145_144.out; have hcz9_0 : w7.cell? ⟨gb144, 0, none⟩ = some (.int .i64 a0_0) := (kC BK144.out 0).trans rfl; have hcz9_1 : w7.cell? ⟨gb144, 1, none⟩ = some (.slice A0_1 l0_1.length c0_1) := (kC BK144.out 1).trans rfl; have hcz9_2 : w7.cell? ⟨gb144, 2, none⟩ = some (.slice A0_2 l0_2.length c0_2) := (kC BK144.out 2).trans rfl; have hcz9_3 : w7.cell? ⟨gb144, 3, none⟩ = some (.slice A0_3 l0_3.length c0_3) := (kC BK144.out 3).trans rfl; have hfz9_0 := kF BK144.out 0; have hfz9_1 := kF BK144.out 1; have hfz9_2 := kF BK144.out 2; have hfz9_3 := kF BK144.out 3) | ((with_reducible refine gate_callee (f := 31) rfl ?_); refine goesL_ (some 9) rfl rfl Try.func31 (by kernel_rfl) rfl #[.agg #[.int .i64 a0_0, .slice A0_1 l0_1.length c0_1, .slice A0_2 l0_2.length c0_2, .slice A0_3 l0_3.length c0_3]] rfl (by (try simp only [List.map_toArray, List.map_cons, List.map_nil]); first | done | rfl | (simp only [List.length_drop, List.length_take]; rfl)) ?_; (with_reducible refine (generalize_valid.calls a0_0 _ _ l0_1 _ _ l0_2 _ _ l0_3 true _ ?side1 ?side2 ?side3 ?side4 ?side5 ?side6 A4.out).mono ?_); (case side1 => repeat (first | exact (Kd.V_reads' HO0_1.out).2.2 | (with_reducible refine cA ?_ _) | (with_reducible refine cN ?_ _) | (with_reducible refine cD ?_))); (case side2 => exact (Kd.V_reads' HO0_1.out).2.1); (case side3 => repeat (first | exact (Kd.V_reads' HO0_2.out).2.2 | (with_reducible refine cA ?_ _) | (with_reducible refine cN ?_ _) | (with_reducible refine cD ?_))); (case side4 => exact (Kd.V_reads' HO0_2.out).2.1); (case side5 => repeat (first | exact (Kd.V_reads' HO0_3.out).2.2 | (with_reducible refine cA ?_ _) | (with_reducible refine cN ?_ _) | (with_reducible refine cD ?_))); (case side6 => exact (Kd.V_reads' HO0_3.out).2.1); rintro e w10 ⟨rfl, hb⟩; refine ⟨_, rfl, ?_⟩; have n0_ := aM (Kd.V_below (by (with_reducible repeat (first | apply Kd.V_alloc | apply Kd.V_drewN | apply Kd.V_drew)); exact HO0_1.out) hb); have n1_ := aM (Kd.V_below (by (with_reducible repeat (first | apply Kd.V_alloc | apply Kd.V_drewN | apply Kd.V_drew)); exact HO0_2.out) hb); have n2_ := aM (Kd.V_below (by (with_reducible repeat (first | apply Kd.V_alloc | apply Kd.V_drewN | apply Kd.V_drew)); exact HO0_3.out) hb); have n3_ := aM (kB (g := gb144) (o := .cells #[.int .i64 a0_0, .slice A0_1 l0_1.length c0_1, .slice A0_2 l0_2.length c0_2, .slice A0_3 l0_3.length c0_3] 31 (0, 0)) (kl BK144) hb); have n4_ := aM (kB (g := gb145) (o := .cells #[.int .i64 0, .slice none 0 0, .slice none 0 0, .slice none 0 0] 31 (0, 0)) (kl BK145) hb); have n5_ := aM (bS (bl) hb); clear HO0_1 HO0_2 HO0_3 BK144 BK145 HB; have HO0_1 := n0_; have HO0_2 := n1_; have HO0_3 := n2_; have BK144 := n3_; have BK145 := n4_; have HB := n5_; clear n0_ n1_ n2_ n3_ n4_ n5_; (try clear hb); (try clear hb2); (try clear hk); (try clear hi)))
  go_loopg [] k (fun kq w' => ∃ (x145001_1 : List (S40)) (x145002_1 : List Int) (x146000_1 : Int) (u145001 : Value) (u145002 : Value), Aside0 (generalize_Line.l0 kq l1 a2 a0_0 x145001_1 x145002_1 l0_3 = some (r1, r2, r3, r4)) ∧ Aside0 (kq ≤ k) ∧ Aside0 (Kd.V k40 40 w' w.heap.size (fun k_ => ((P0_1_ k_ ∨ P0_2_ k_ ∨ P0_3_ k_) ∨ w.heap.size ≤ k_) ∧ k_ ≠ gb144 ∧ k_ ≠ gb145) u145001 x145001_1) ∧ Aside0 (Kd.V (Kd.int .i64) 3 w' w.heap.size (fun k_ => ((P0_1_ k_ ∨ P0_2_ k_ ∨ P0_3_ k_) ∨ w.heap.size ≤ k_) ∧ k_ ≠ gb144 ∧ k_ ≠ gb145) u145002 x145002_1) ∧ Aside0 (Kd.V k80 80 w' w.heap.size (fun k_ => ((P0_1_ k_ ∨ P0_2_ k_ ∨ P0_3_ k_) ∨ w.heap.size ≤ k_) ∧ k_ ≠ gb144 ∧ k_ ≠ gb145) (.slice A0_3 l0_3.length c0_3) l0_3) ∧ Aside0 (w'.heap[gb144]? = some (.cells #[.int .i64 a0_0, u145001, u145002, (.slice A0_3 l0_3.length c0_3)] 31 (0, 0))) ∧ Aside0 (w'.heap[gb145]? = some (.cells #[.int .i64 x146000_1, (.slice none 0 0), (.slice none 0 0), (.slice none 0 0)] 31 (0, 0))) ∧ Aside0 (Below w.heap.size w w'))
  case atStart => exact ⟨(l0_1), (l0_2), (0), (.slice A0_1 l0_1.length c0_1), (.slice A0_2 l0_2.length c0_2), H', ⟨Nat.le_refl _⟩, ⟨by (with_reducible repeat (first | apply Kd.V_alloc | apply Kd.V_drewN | apply Kd.V_drew)); exact Kd.V_mono HO0_1.out (fun _ hk => ⟨hk.1.1, ⟨hk.1.2, hk.2⟩⟩)⟩, ⟨by (with_reducible repeat (first | apply Kd.V_alloc | apply Kd.V_drewN | apply Kd.V_drew)); exact Kd.V_mono HO0_2.out (fun _ hk => ⟨hk.1.1, ⟨hk.1.2, hk.2⟩⟩)⟩, ⟨by (with_reducible repeat (first | apply Kd.V_alloc | apply Kd.V_drewN | apply Kd.V_drew)); exact Kd.V_mono HO0_3.out (fun _ hk => ⟨hk.1.1, ⟨hk.1.2, hk.2⟩⟩)⟩, ⟨by (with_reducible repeat (first | refine kN ?_ _ | refine kD ?_ | refine kA ?_ _)); exact BK144.out⟩, ⟨by (with_reducible repeat (first | refine kN ?_ _ | refine kD ?_ | refine kA ?_ _)); exact BK145.out⟩, ⟨bl⟩⟩
  case round =>
   clear H'
   try clear c1
   try clear p2
   try clear c3
   try clear c5
   try clear c8
   try clear hcz9_0
   try clear hcz9_1
   try clear hcz9_2
   try clear hcz9_3
   try clear hfz9_0
   try clear hfz9_1
   try clear hfz9_2
   try clear hfz9_3
   obtain ⟨x145001_1, x145002_1, x146000_1, u145001, u145002, HA, HK1, HO_145001, HO_145002, HO_145003, BK144, BK145, HB⟩ := hrel
   cases gk with
   | zero => exact absurd HA.out (by simp [generalize_Line.l0])
   | succ k1 =>
    have H := HA.out
    clear HA
    simp only [generalize_Line.l0] at H
    replace H := Option.bind_eq_some_iff.mp H
    obtain ⟨t147, A110, H⟩ := H
    replace H : (if t147 < 0 then (some (a0_0, x145001_1, x145002_1, l0_3)) else ((api_Point_33.f x145001_1 t147).bind fun t148 => ((generalize_without_int.f x145002_1 t147).bind fun t151 => (generalize_Line.l0 k1 l1 a2 a0_0 t148 t151 l0_3)))) = some (r1, r2, r3, r4) := H
    have A11 := aM A110
    clear A110
    by_cases c12 : t147 < 0
    ·rw [if_pos c12] at H
     have c12b0 : decide (t147 < 0) = true := decide_eq_true c12
     clear c12
     simp only [Option.some.injEq, Prod.mk.injEq] at H
     obtain ⟨rfl, rfl, rfl, rfl⟩ := H
     have hnb13 := NB144_145.out
     have hnc13 := NB145_144.out
     have hcz14_0 : wr.cell? ⟨gb144, 0, none⟩ = some (.int .i64 a0_0) := (kC BK144.out 0).trans rfl
     have hcz14_1 : wr.cell? ⟨gb144, 1, none⟩ = some (u145001) := (kC BK144.out 1).trans rfl
     have hcz14_2 : wr.cell? ⟨gb144, 2, none⟩ = some (u145002) := (kC BK144.out 2).trans rfl
     have hcz14_3 : wr.cell? ⟨gb144, 3, none⟩ = some (.slice A0_3 l0_3.length c0_3) := (kC BK144.out 3).trans rfl
     have hfz14_0 := kF BK144.out 0
     have hfz14_1 := kF BK144.out 1
     have hfz14_2 := kF BK144.out 2
     have hfz14_3 := kF BK144.out 3
     obtain ⟨Ao15, co15, eo15⟩ := Kd.V_slice HO_145001.out
     subst eo15
     go_wp2_with (first | ((with_reducible refine gate_callee (f := 32) rfl ?_); refine goesL_ (some 16) rfl rfl Try.func32 (by kernel_rfl) rfl #[.slice Ao15 x145001_1.length co15, .slice A1 l1.length c1, .int .i64 a2] rfl (by (try simp only [List.map_toArray, List.map_cons, List.map_nil]); first | done | rfl | (simp only [List.length_drop, List.length_take]; rfl)) ?_; (with_reducible refine (generalize_weakest.calls k1 _ _ x145001_1 _ _ l1 a2 t147 _ ?side1 ?side2 ?side3 ?side4 A11.out).mono ?_); (case side1 => repeat (first | exact (Kd.V_reads' HO_145001.out).2.2 | (with_reducible refine cA ?_ _) | (with_reducible refine cN ?_ _) | (with_reducible refine cD ?_))); (case side2 => exact (Kd.V_reads' HO_145001.out).2.1); (case side3 => repeat (first | exact (Kd.C_below HR1.out HB.out) | (with_reducible refine cA ?_ _) | (with_reducible refine cN ?_ _) | (with_reducible refine cD ?_))); (case side4 => exact HC1.out); rintro e w16 ⟨rfl, hb⟩; refine ⟨_, rfl, ?_⟩; replace HO_145001 := aM (Kd.V_below (by (with_reducible repeat (first | apply Kd.V_alloc | apply Kd.V_drewN | apply Kd.V_drew)); exact HO_145001.out) hb); replace HO_145002 := aM (Kd.V_below (by (with_reducible repeat (first | apply Kd.V_alloc | apply Kd.V_drewN | apply Kd.V_drew)); exact HO_145002.out) hb); replace HO_145003 := aM (Kd.V_below (by (with_reducible repeat (first | apply Kd.V_alloc | apply Kd.V_drewN | apply Kd.V_drew)); exact HO_145003.out) hb); replace BK144 := aM (kB (g := gb144) (o := .cells #[.int .i64 a0_0, .slice Ao15 x145001_1.length co15, u145002, .slice A0_3 l0_3.length c0_3] 31 (0, 0)) (kl BK144) hb); replace BK145 := aM (kB (g := gb145) (o := .cells #[.int .i64 x146000_1, .slice none 0 0, .slice none 0 0, .slice none 0 0] 31 (0, 0)) (kl BK145) hb); replace HB := aM (bS (bl) hb); (try clear hb); (try clear hb2); (try clear hk); (try clear hi); have hcz17_0 : w16.cell? ⟨gb144, 0, none⟩ = some (.int .i64 a0_0) := (kC BK144.out 0).trans rfl; have hcz17_1 : w16.cell? ⟨gb144, 1, none⟩ = some (.slice Ao15 x145001_1.length co15) := (kC BK144.out 1).trans rfl; have hcz17_2 : w16.cell? ⟨gb144, 2, none⟩ = some (u145002) := (kC BK144.out 2).trans rfl; have hcz17_3 : w16.cell? ⟨gb144, 3, none⟩ = some (.slice A0_3 l0_3.length c0_3) := (kC BK144.out 3).trans rfl; have hfz17_0 := kF BK144.out 0; have hfz17_1 := kF BK144.out 1; have hfz17_2 := kF BK144.out 2; have hfz17_3 := kF BK144.out 3; have hcz18_0 : w16.cell? ⟨gb145, 0, none⟩ = some (.int .i64 x146000_1) := (kC BK145.out 0).trans rfl; have hcz18_1 : w16.cell? ⟨gb145, 1, none⟩ = some (.slice none 0 0) := (kC BK145.out 1).trans rfl; have hcz18_2 : w16.cell? ⟨gb145, 2, none⟩ = some (.slice none 0 0) := (kC BK145.out 2).trans rfl; have hcz18_3 : w16.cell? ⟨gb145, 3, none⟩ = some (.slice none 0 0) := (kC BK145.out 3).trans rfl; have hfz18_0 := kF BK145.out 0; have hfz18_1 := kF BK145.out 1; have hfz18_2 := kF BK145.out 2; have hfz18_3 := kF BK145.out 3; obtain ⟨Ao19, co19, eo19⟩ := Kd.V_slice HO_145002.out; subst eo19))
     refine bodyPost_ret (results_cell_row rfl _ _ gb145 31 #[.int .i64 a0_0, .slice Ao15 x145001_1.length co15, .slice Ao19 x145002_1.length co19, .slice A0_3 l0_3.length c0_3] (0, 0) _ rfl (by (with_reducible repeat (first | refine kN ?_ _ | refine kD ?_ | refine kA ?_ _)); refine kP (cs := #[.int .i64 a0_0, .slice Ao15 x145001_1.length co15, .slice Ao19 x145002_1.length co19, .slice none 0 0]) ?_ 3 _ rfl; (with_reducible repeat (first | refine kN ?_ _ | refine kD ?_ | refine kA ?_ _)); refine kP (cs := #[.int .i64 a0_0, .slice Ao15 x145001_1.length co15, .slice none 0 0, .slice none 0 0]) ?_ 2 _ rfl; (with_reducible repeat (first | refine kN ?_ _ | refine kD ?_ | refine kA ?_ _)); refine kP (cs := #[.int .i64 a0_0, .slice none 0 0, .slice none 0 0, .slice none 0 0]) ?_ 1 _ rfl; (with_reducible repeat (first | refine kN ?_ _ | refine kD ?_ | refine kA ?_ _)); refine kP (cs := #[.int .i64 x146000_1, .slice none 0 0, .slice none 0 0, .slice none 0 0]) ?_ 0 _ rfl; (with_reducible repeat (first | refine kN ?_ _ | refine kD ?_ | refine kA ?_ _)); exact BK145.out) Try.underlying31 rfl (by kernel_rfl)) rfl ?_
     exact ⟨_, _, _, by first | rfl | (simp [errW_none, errW_some] <;> rfl) | (simp [*, errW_none, errW_some] <;> rfl), by (with_reducible repeat (first | apply Kd.V_alloc | apply Kd.V_drewN | apply Kd.V_drew)); exact Kd.V_mono (Kd.V_far (p := ⟨gb145, 3, none⟩) (Kd.V_far (p := ⟨gb145, 2, none⟩) (Kd.V_far (p := ⟨gb145, 1, none⟩) (Kd.V_far (p := ⟨gb145, 0, none⟩) (Kd.V_mono HO_145001.out (fun k_ hk => (⟨hk, hk.2.2⟩ : _ ∧ k_ ≠ gb145))) (fun _ hk => hk.2) (.int .i64 a0_0)) (fun _ hk => hk.2) (.slice Ao15 x145001_1.length co15)) (fun _ hk => hk.2) (.slice Ao19 x145002_1.length co19)) (fun _ hk => hk.2) (.slice A0_3 l0_3.length c0_3)) (fun _ hk => hk.1.1), by (with_reducible repeat (first | apply Kd.V_alloc | apply Kd.V_drewN | apply Kd.V_drew)); exact Kd.V_mono (Kd.V_far (p := ⟨gb145, 3, none⟩) (Kd.V_far (p := ⟨gb145, 2, none⟩) (Kd.V_far (p := ⟨gb145, 1, none⟩) (Kd.V_far (p := ⟨gb145, 0, none⟩) (Kd.V_mono HO_145002.out (fun k_ hk => (⟨hk, hk.2.2⟩ : _ ∧ k_ ≠ gb145))) (fun _ hk => hk.2) (.int .i64 a0_0)) (fun _ hk => hk.2) (.slice Ao15 x145001_1.length co15)) (fun _ hk => hk.2) (.slice Ao19 x145002_1.length co19)) (fun _ hk => hk.2) (.slice A0_3 l0_3.length c0_3)) (fun _ hk => hk.1.1), by (with_reducible repeat (first | apply Kd.V_alloc | apply Kd.V_drewN | apply Kd.V_drew)); exact Kd.V_mono (Kd.V_far (p := ⟨gb145, 3, none⟩) (Kd.V_far (p := ⟨gb145, 2, none⟩) (Kd.V_far (p := ⟨gb145, 1, none⟩) (Kd.V_far (p := ⟨gb145, 0, none⟩) (Kd.V_mono HO_145003.out (fun k_ hk => (⟨hk, hk.2.2⟩ : _ ∧ k_ ≠ gb145))) (fun _ hk => hk.2) (.int .i64 a0_0)) (fun _ hk => hk.2) (.slice Ao15 x145001_1.length co15)) (fun _ hk => hk.2) (.slice Ao19 x145002_1.length co19)) (fun _ hk => hk.2) (.slice A0_3 l0_3.length c0_3)) (fun _ hk => hk.1.1), bl⟩
    ·rw [if_neg c12] at H
     have c12b0 : decide (t147 < 0) = false := decide_eq_false c12
     clear c12
     replace H := Option.bind_eq_some_iff.mp H
     obtain ⟨t148, A200, H⟩ := H
     replace H : ((generalize_without_int.f x145002_1 t147).bind fun t151 => (generalize_Line.l0 k1 l1 a2 a0_0 t148 t151 l0_3)) = some (r1, r2, r3, r4) := H
     have A20 := aM A200
     clear A200
     replace H := Option.bind_eq_some_iff.mp H
     obtain ⟨t151, A210, H⟩ := H
     replace H : (generalize_Line.l0 k1 l1 a2 a0_0 t148 t151 l0_3) = some (r1, r2, r3, r4) := H
     have A21 := aM A210
     clear A210
     have H' := aM H
     clear H
     have hnb22 := NB144_145.out
     have hnc22 := NB145_144.out
     have hcz23_0 : wr.cell? ⟨gb144, 0, none⟩ = some (.int .i64 a0_0) := (kC BK144.out 0).trans rfl
     have hcz23_1 : wr.cell? ⟨gb144, 1, none⟩ = some (u145001) := (kC BK144.out 1).trans rfl
     have hcz23_2 : wr.cell? ⟨gb144, 2, none⟩ = some (u145002) := (kC BK144.out 2).trans rfl
     have hcz23_3 : wr.cell? ⟨gb144, 3, none⟩ = some (.slice A0_3 l0_3.length c0_3) := (kC BK144.out 3).trans rfl
     have hfz23_0 := kF BK144.out 0
     have hfz23_1 := kF BK144.out 1
     have hfz23_2 := kF BK144.out 2
     have hfz23_3 := kF BK144.out 3
     obtain ⟨Ao24, co24, eo24⟩ := Kd.V_slice HO_145001.out
     subst eo24
     try go_wp2_with (first | ((with_reducible refine gate_callee (f := 32) rfl ?_); refine goesL_ (some 16) rfl rfl Try.func32 (by kernel_rfl) rfl #[.slice Ao24 x145001_1.length co24, .slice A1 l1.length c1, .int .i64 a2] rfl (by (try simp only [List.map_toArray, List.map_cons, List.map_nil]); first | done | rfl | (simp only [List.length_drop, List.length_take]; rfl)) ?_; (with_reducible refine (generalize_weakest.calls k1 _ _ x145001_1 _ _ l1 a2 t147 _ ?side1 ?side2 ?side3 ?side4 A11.out).mono ?_); (case side1 => repeat (first | exact (Kd.V_reads' HO_145001.out).2.2 | (with_reducible refine cA ?_ _) | (with_reducible refine cN ?_ _) | (with_reducible refine cD ?_))); (case side2 => exact (Kd.V_reads' HO_145001.out).2.1); (case side3 => repeat (first | exact (Kd.C_below HR1.out HB.out) | (with_reducible refine cA ?_ _) | (with_reducible refine cN ?_ _) | (with_reducible refine cD ?_))); (case side4 => exact HC1.out); rintro e w25 ⟨rfl, hb⟩; refine ⟨_, rfl, ?_⟩; replace HO_145001 := aM (Kd.V_below (by (with_reducible repeat (first | apply Kd.V_alloc | apply Kd.V_drewN | apply Kd.V_drew)); exact HO_145001.out) hb); replace HO_145002 := aM (Kd.V_below (by (with_reducible repeat (first | apply Kd.V_alloc | apply Kd.V_drewN | apply Kd.V_drew)); exact HO_145002.out) hb); replace HO_145003 := aM (Kd.V_below (by (with_reducible repeat (first | apply Kd.V_alloc | apply Kd.V_drewN | apply Kd.V_drew)); exact HO_145003.out) hb); replace BK144 := aM (kB (g := gb144) (o := .cells #[.int .i64 a0_0, .slice Ao24 x145001_1.length co24, u145002, .slice A0_3 l0_3.length c0_3] 31 (0, 0)) (kl BK144) hb); replace BK145 := aM (kB (g := gb145) (o := .cells #[.int .i64 x146000_1, .slice none 0 0, .slice none 0 0, .slice none 0 0] 31 (0, 0)) (kl BK145) hb); replace HB := aM (bS (bl) hb); (try clear hb); (try clear hb2); (try clear hk); (try clear hi)))
     replace HO_145001 := aM (Kd.V_drew HO_145001.out)
     replace HO_145002 := aM (Kd.V_drew HO_145002.out)
     replace HO_145003 := aM (Kd.V_drew HO_145003.out)
     replace BK144 := aM (kD BK144.out)
     replace BK145 := aM (kD BK145.out)
     replace HB := aM (bD HB.out)
     refine start_ (n := 12) (S := fun w' => w'.cell? ⟨gb144, 0, none⟩ = some (.int .i64 a0_0) ∧ w'.cell? ⟨gb144, 1, none⟩ = some (.slice Ao24 x145001_1.length co24) ∧ w'.cell? ⟨gb144, 2, none⟩ = some (u145002) ∧ w'.cell? ⟨gb144, 3, none⟩ = some (.slice A0_3 l0_3.length c0_3)) (ds := [9, 11]) #[false, false, false, false, false, false, false, false, false, false, false, false] (by kernel_rfl) rfl rfl ⟨(kC BK144.out 0).trans rfl, (kC BK144.out 1).trans rfl, (kC BK144.out 2).trans rfl, (kC BK144.out 3).trans rfl⟩ (fun hHeld => ?_); refine with_tabW generalize_Line.tab6 generalize_Line.bits6 (fun HT_ HW_ => ?_)
     generalize w25.drew = w26 at HO_145001 HO_145002 HO_145003 BK144 BK145 HB hHeld ⊢
     refine pure_ (i := 0) (N := some 20) (v := ?_) (a' := ?_) (ba 12 1) rfl rfl (any_of HT_.out (by kernel_rfl)) (fun _ _ _ h => h) (Or.inl ⟨by rfl, ?_⟩) ?_ ?_
     rotate_left
     ·intro w'
      go_simp
      with_reducible rfl
     rotate_left
     ·simp only [Act.put, sA, sB, sC, i64_w, i32_w]
      rfl
     refine pure_ (i := 2) (N := some 22) (v := ?_) (a' := ?_) (ba 12 5) rfl rfl (any_of HT_.out (by kernel_rfl)) (fun _ _ _ h => h) (Or.inl ⟨by rfl, ?_⟩) ?_ ?_
     rotate_left
     ·intro w'
      go_simp
      with_reducible rfl
     rotate_left
     ·simp only [Act.put, sA, sB, sC, i64_w, i32_w]
      rfl
     refine pure_ (i := 4) (N := some 24) (v := ?_) (a' := ?_) (ba 12 21) rfl rfl (any_of HT_.out (by kernel_rfl)) (fun _ _ _ h => h) (Or.inl ⟨by rfl, ?_⟩) ?_ ?_
     rotate_left
     ·intro w'
      go_simp
      with_reducible rfl
     rotate_left
     ·simp only [Act.put, sA, sB, sC, i64_w, i32_w]
      rfl
     refine pure_ (i := 6) (N := some 26) (v := ?_) (a' := ?_) (ba 12 85) rfl rfl (any_of HT_.out (by kernel_rfl)) (fun _ _ _ h => h) (Or.inl ⟨by rfl, ?_⟩) ?_ ?_
     rotate_left
     ·intro w'
      go_simp
      with_reducible rfl
     rotate_left
     ·simp only [Act.put, sA, sB, sC, i64_w, i32_w]
      rfl
     refine take_ (i := 1) (N := some 21) (v := ?_) (a' := ?_) (ba 12 87) rfl rfl (take_ofW HT_.out HW_.out (by kernel_rfl)) (fun _ _ _ h => h) (Or.inl ⟨by rfl, ?_⟩) hHeld ?_ ?_
     rotate_left
     ·rintro w' ⟨s0, s1, s2, s3⟩
      go_simp
      with_reducible rfl
     rotate_left
     ·simp only [Act.put, sA, sB, sC, i64_w, i32_w]
      rfl
     refine take_ (i := 5) (N := some 25) (v := ?_) (a' := ?_) (ba 12 119) rfl rfl (take_ofW HT_.out HW_.out (by kernel_rfl)) (fun _ _ _ h => h) (Or.inl ⟨by rfl, ?_⟩) hHeld ?_ ?_
     rotate_left
     ·rintro w' ⟨s0, s1, s2, s3⟩
      go_simp
      with_reducible rfl
     rotate_left
     ·simp only [Act.put, sA, sB, sC, i64_w, i32_w]
      rfl
     refine one_ (i := 3) (N := some 23) (ba 12 127) rfl rfl (one_of HT_.out (by kernel_rfl)) (by decide) (fun K hK => ?_)
     refine goes_ Try.func33 (by kernel_rfl) rfl #[.slice Ao24 x145001_1.length co24, .int .i64 t147] (by rfl) rfl rfl (by (try simp only [List.map_toArray, List.map_cons, List.map_nil]); first | done | rfl | (simp only [List.length_drop, List.length_take]; rfl)) ?_
     with_reducible refine (api_Point_33.calls _ _ x145001_1 t147 t148 _ ?side1 ?side2 A20.out).mono ?_
     (case side1 => repeat (first | exact (Kd.V_reads' HO_145001.out).2.2 | (with_reducible refine cA ?_ _) | (with_reducible refine cN ?_ _) | (with_reducible refine cD ?_)))
     (case side2 => exact (Kd.V_reads' HO_145001.out).2.1)
     rintro e w27 ⟨v149, rfl, ho0, hb⟩
     refine ⟨_, rfl, ?_⟩
     replace HO_145001 := aM (Kd.V_elder' (by (with_reducible repeat (first | apply Kd.V_alloc | apply Kd.V_drewN | apply Kd.V_drew)); exact HO_145001.out) (Kd.R_base ho0) hb)
     replace HO_145002 := aM (Kd.V_elder' (by (with_reducible repeat (first | apply Kd.V_alloc | apply Kd.V_drewN | apply Kd.V_drew)); exact HO_145002.out) (Kd.R_base ho0) hb)
     replace HO_145003 := aM (Kd.V_elder' (by (with_reducible repeat (first | apply Kd.V_alloc | apply Kd.V_drewN | apply Kd.V_drew)); exact HO_145003.out) (Kd.R_base ho0) hb)
     have HO150 := aM (Kd.R_lower (Kd.R_newM (M := fun k_ => (w.heap.size ≤ k_)) ho0 (below_size (bl)) (fun k_ h_ => h_)) (below_size (bl)))
     replace BK144 := aM (kB (g := gb144) (o := .cells #[.int .i64 a0_0, .slice Ao24 x145001_1.length co24, u145002, .slice A0_3 l0_3.length c0_3] 31 (0, 0)) (kl BK144) hb)
     replace BK145 := aM (kB (g := gb145) (o := .cells #[.int .i64 x146000_1, .slice none 0 0, .slice none 0 0, .slice none 0 0] 31 (0, 0)) (kl BK145) hb)
     replace HB := aM (bS (bl) hb)
     (try clear hb)
     (try clear hb2)
     (try clear hk)
     (try clear hi)
     (try clear ho0)
     obtain ⟨Ao28, co28, eo28⟩ := Kd.V_slice HO_145002.out
     (first | subst eo28 | (injection eo28 with f1_ f2_ f3_; have f4_ := f1_.symm; have f5_ := f3_.symm; clear f1_ f2_ f3_; subst f4_; subst f5_))
     refine hK.out _ _ ⟨(kC BK144.out 0).trans rfl, (kC BK144.out 1).trans rfl, (kC BK144.out 2).trans rfl, (kC BK144.out 3).trans rfl⟩ (fun hHeld => ?_)
     clear hK K
     refine norm_ (a' := ?_) ?_ ?_
     rotate_left
     ·show Act.put _ (some 23) _ = _
      simp only [Act.put, sA, sB, sC, i64_w, i32_w]
      rfl
     refine pure_ (i := 8) (N := some 28) (v := ?_) (a' := ?_) (ba 12 383) rfl rfl (any_of HT_.out (by kernel_rfl)) (fun _ _ _ h => h) (Or.inl ⟨by rfl, ?_⟩) ?_ ?_
     rotate_left
     ·intro w'
      go_simp
      with_reducible rfl
     rotate_left
     ·simp only [Act.put, sA, sB, sC, i64_w, i32_w]
      rfl
     refine one_ (i := 7) (N := some 27) (ba 12 511) rfl rfl (one_of HT_.out (by kernel_rfl)) (by decide) (fun K hK => ?_)
     refine goes_ Try.func34 (by kernel_rfl) rfl #[.slice Ao28 x145002_1.length co28, .int .i64 t147] (by rfl) rfl rfl (by (try simp only [List.map_toArray, List.map_cons, List.map_nil]); first | done | rfl | (simp only [List.length_drop, List.length_take]; rfl)) ?_
     with_reducible refine (generalize_without_int.calls _ _ x145002_1 t147 t151 _ ?side1 ?side2 A21.out).mono ?_
     (case side1 => repeat (first | exact (Kd.V_reads' HO_145002.out).2.2 | (with_reducible refine cA ?_ _) | (with_reducible refine cN ?_ _) | (with_reducible refine cD ?_)))
     (case side2 => exact (Kd.V_reads' HO_145002.out).2.1)
     rintro e w29 ⟨v152, rfl, ho0, hb⟩
     refine ⟨_, rfl, ?_⟩
     replace HO_145001 := aM (Kd.V_elder' (by (with_reducible repeat (first | apply Kd.V_alloc | apply Kd.V_drewN | apply Kd.V_drew)); exact HO_145001.out) (Kd.R_base ho0) hb)
     replace HO_145002 := aM (Kd.V_elder' (by (with_reducible repeat (first | apply Kd.V_alloc | apply Kd.V_drewN | apply Kd.V_drew)); exact HO_145002.out) (Kd.R_base ho0) hb)
     replace HO_145003 := aM (Kd.V_elder' (by (with_reducible repeat (first | apply Kd.V_alloc | apply Kd.V_drewN | apply Kd.V_drew)); exact HO_145003.out) (Kd.R_base ho0) hb)
     replace HO150 := aM (rB (rl HO150) hb)
     have HO153 := aM (Kd.R_lower (Kd.R_newM (M := fun k_ => (w.heap.size ≤ k_)) ho0 (below_size (bl)) (fun k_ h_ => h_)) (below_size (bl)))
     replace BK144 := aM (kB (g := gb144) (o := .cells #[.int .i64 a0_0, .slice Ao24 x145001_1.length co24, .slice Ao28 x145002_1.length co28, .slice A0_3 l0_3.length c0_3] 31 (0, 0)) (kl BK144) hb)
     replace BK145 := aM (kB (g := gb145) (o := .cells #[.int .i64 x146000_1, .slice none 0 0, .slice none 0 0, .slice none 0 0] 31 (0, 0)) (kl BK145) hb)
     replace HB := aM (bS (bl) hb)
     (try clear hb)
     (try clear hb2)
     (try clear hk)
     (try clear hi)
     (try clear ho0)
     obtain ⟨Ao30, co30, eo30⟩ := Kd.R_slice HO150.out
     (first | subst eo30 | (injection eo30 with f1_ f2_ f3_; have f4_ := f1_.symm; have f5_ := f3_.symm; clear f1_ f2_ f3_; subst f4_; subst f5_))
     obtain ⟨Ao32, co32, eo32⟩ := Kd.R_slice HO153.out
     (first | subst eo32 | (injection eo32 with f1_ f2_ f3_; have f4_ := f1_.symm; have f5_ := f3_.symm; clear f1_ f2_ f3_; subst f4_; subst f5_))
     refine hK.out _ _ ⟨(kC BK144.out 0).trans rfl, (kC BK144.out 1).trans rfl, (kC BK144.out 2).trans rfl, (kC BK144.out 3).trans rfl⟩ (fun hHeld => ?_)
     clear hK K
     refine norm_ (a' := ?_) ?_ ?_
     rotate_left
     ·show Act.put _ (some 27) _ = _
      simp only [Act.put, sA, sB, sC, i64_w, i32_w]
      rfl
     refine last_ (i := 9) (N := none) (ba 12 1023) rfl rfl (one_of HT_.out (by kernel_rfl)) (by decide) (fun K hK => ?_)
     have hs31 : w29.cell? ⟨gb144, 1, none⟩ = some (.slice Ao24 x145001_1.length co24) := (kC BK144.out 1).trans rfl
     have hfs31 := kF BK144.out 1
     have hns31_1 := NB145_144.out
     have hms31_1 := NB144_145.out
     refine skip_ (w1 := ?_) (by rfl) rfl ?_ ?_
     rotate_left
     ·go_simp
      rfl
     refine hK.out _ _ ?_
     clear hK K
     refine pure_ (i := 10) (N := some 29) (v := ?_) (a' := ?_) (ba 12 2047) rfl rfl (any_of HT_.out (by kernel_rfl)) (fun _ _ _ h => h) (Or.inl ⟨by rfl, ?_⟩) ?_ ?_
     rotate_left
     ·intro w'
      go_simp
      with_reducible rfl
     rotate_left
     ·simp only [Act.put, sA, sB, sC, i64_w, i32_w]
      rfl
     refine last_ (i := 11) (N := none) (ba 12 4095) rfl rfl (one_of HT_.out (by kernel_rfl)) (by decide) (fun K hK => ?_)
     have hs33 : w29.cell? ⟨gb144, 2, none⟩ = some (.slice Ao28 x145002_1.length co28) := (kC BK144.out 2).trans rfl
     have hfs33 := kF BK144.out 2
     have hns33_1 := NB145_144.out
     have hms33_1 := NB144_145.out
     refine skip_ (w1 := ?_) (by rfl) rfl ?_ ?_
     rotate_left
     ·go_simp
      rfl
     refine hK.out _ _ ?_
     clear hK K
     refine done_ (done_of HT_.out (by kernel_rfl)) ?_
     try go_wp2
     go_roundg k1
     case measure => have := HK1.out; omega
     case rel => exact ⟨(t148), (t151), (x146000_1), (.slice Ao30 t148.length co30), (.slice Ao32 t151.length co32), H', ⟨by have := HK1.out; omega⟩, ⟨Kd.V_mono (Kd.R_V (by (with_reducible repeat (first | apply rA | apply rN | apply rD)); exact (Kd.R_far (p := ⟨gb144, 2, none⟩) (Kd.R_far (p := ⟨gb144, 1, none⟩) (Kd.R_types (Kd.R_types (Kd.R_types HO150.out BK144.out (by decide)) BK145.out (by decide)) BK144.out (by decide)) (fun _ hk => hk.2) (.slice Ao30 t148.length co30)) (fun _ hk => hk.2) (.slice Ao32 t151.length co32)))) (fun k_ hk => by first | exact ⟨(.inr (hk.1.1.1.1)), ⟨hk.1.1.2, hk.1.2⟩⟩ | exact (.inr (hk)))⟩, ⟨Kd.V_mono (Kd.R_V (by (with_reducible repeat (first | apply rA | apply rN | apply rD)); exact (Kd.R_far (p := ⟨gb144, 2, none⟩) (Kd.R_far (p := ⟨gb144, 1, none⟩) (Kd.R_types (Kd.R_types (Kd.R_types HO153.out BK144.out (by decide)) BK145.out (by decide)) BK144.out (by decide)) (fun _ hk => hk.2) (.slice Ao30 t148.length co30)) (fun _ hk => hk.2) (.slice Ao32 t151.length co32)))) (fun k_ hk => by first | exact ⟨(.inr (hk.1.1.1.1)), ⟨hk.1.1.2, hk.1.2⟩⟩ | exact (.inr (hk)))⟩, ⟨by (with_reducible repeat (first | apply Kd.V_alloc | apply Kd.V_drewN | apply Kd.V_drew)); exact Kd.V_mono (Kd.V_far (p := ⟨gb144, 2, none⟩) (Kd.V_far (p := ⟨gb144, 1, none⟩) (Kd.V_mono HO_145003.out (fun k_ hk => (⟨hk, hk.1.1.2.1⟩ : _ ∧ k_ ≠ gb144))) (fun _ hk => hk.2) (.slice Ao30 t148.length co30)) (fun _ hk => hk.2) (.slice Ao32 t151.length co32)) (fun _ hk => ⟨hk.1.1.1.1, ⟨hk.1.1.1.2.1, hk.1.1.1.2.2⟩⟩)⟩, ⟨by (with_reducible repeat (first | refine kN ?_ _ | refine kD ?_ | refine kA ?_ _)); refine kP (cs := #[.int .i64 a0_0, .slice Ao30 t148.length co30, .slice Ao28 x145002_1.length co28, .slice A0_3 l0_3.length c0_3]) ?_ 2 _ rfl; (with_reducible repeat (first | refine kN ?_ _ | refine kD ?_ | refine kA ?_ _)); refine kP (cs := #[.int .i64 a0_0, .slice Ao24 x145001_1.length co24, .slice Ao28 x145002_1.length co28, .slice A0_3 l0_3.length c0_3]) ?_ 1 _ rfl; (with_reducible repeat (first | refine kN ?_ _ | refine kD ?_ | refine kA ?_ _)); exact BK144.out⟩, ⟨by (with_reducible repeat (first | refine kN ?_ _ | refine kD ?_ | refine kA ?_ _)); refine blk_far ?_ NB145_144.out _; (with_reducible repeat (first | refine kN ?_ _ | refine kD ?_ | refine kA ?_ _)); refine blk_far ?_ NB145_144.out _; (with_reducible repeat (first | refine kN ?_ _ | refine kD ?_ | refine kA ?_ _)); exact BK145.out⟩, ⟨bl⟩⟩
 ·replace c5 := Bool.eq_false_iff.mpr c5
  subst c5
  have H1 : (some (a0_0, l0_1, l0_2, l0_3)) = some (r1, r2, r3, r4) := by rw [if_neg (show ¬ (false = true) by decide)] at H; exact H
  clear H
  have H := H1
  clear H1
  simp only [Option.some.injEq, Prod.mk.injEq] at H
  obtain ⟨rfl, rfl, rfl, rfl⟩ := H
  go_enter Try.func13, Try.ntmps13
  go_wp2_with (first | ((with_reducible refine gate_dst (N := 3) rfl ?_); refine box_event ?hg (N := 3) ?hd (cs := #[.int .i64 a0_0, .slice A0_1 l0_1.length c0_1, .slice A0_2 l0_2.length c0_2, .slice A0_3 l0_3.length c0_3]) (t := 31) ?hr ?_; (case hd => rfl); (case hg => rfl); (case hr => first | (go_simp; done) | (go_simp; rfl)); intro gb144 hg w34 hbox hb; have n0_ := aM (Kd.V_below (Kd.V_elderB (by (with_reducible repeat (first | apply Kd.V_alloc | apply Kd.V_drewN | apply Kd.V_drew)); exact HO0_1.out) gb144 (Nat.le_of_eq hg.symm)) hb); have n1_ := aM (Kd.V_below (Kd.V_elderB (by (with_reducible repeat (first | apply Kd.V_alloc | apply Kd.V_drewN | apply Kd.V_drew)); exact HO0_2.out) gb144 (Nat.le_of_eq hg.symm)) hb); have n2_ := aM (Kd.V_below (Kd.V_elderB (by (with_reducible repeat (first | apply Kd.V_alloc | apply Kd.V_drewN | apply Kd.V_drew)); exact HO0_3.out) gb144 (Nat.le_of_eq hg.symm)) hb); have n3_ := aM (bS (bl) hb); have n4_ := aM (hbox); have n5_ := aM ((by rw [hg]; exact (below_size (bl)) : w.heap.size ≤ gb144)); have n6_ := aM ((by rw [hg]; exact (below_size (bl)) : w.heap.size ≤ gb144)); clear HO0_1 HO0_2 HO0_3 HB; have HO0_1 := n0_; have HO0_2 := n1_; have HO0_3 := n2_; have HB := n3_; have BK144 := n4_; have GW144 := n5_; have GE144 := n6_; clear n0_ n1_ n2_ n3_ n4_ n5_ n6_ hb hbox hg) | ((with_reducible refine gate_dst (N := 6) rfl ?_); refine box_event ?hg (N := 6) ?hd (cs := #[.int .i64 0, .slice none 0 0, .slice none 0 0, .slice none 0 0]) (t := 31) ?hr ?_; (case hd => rfl); (case hg => rfl); (case hr => first | (go_simp; done) | (go_simp; rfl)); intro gb145 hg w35 hbox hb; have n0_ := aM (Kd.V_below (Kd.V_elderB (by (with_reducible repeat (first | apply Kd.V_alloc | apply Kd.V_drewN | apply Kd.V_drew)); exact HO0_1.out) gb145 (Nat.le_of_eq hg.symm)) hb); have n1_ := aM (Kd.V_below (Kd.V_elderB (by (with_reducible repeat (first | apply Kd.V_alloc | apply Kd.V_drewN | apply Kd.V_drew)); exact HO0_2.out) gb145 (Nat.le_of_eq hg.symm)) hb); have n2_ := aM (Kd.V_below (Kd.V_elderB (by (with_reducible repeat (first | apply Kd.V_alloc | apply Kd.V_drewN | apply Kd.V_drew)); exact HO0_3.out) gb145 (Nat.le_of_eq hg.symm)) hb); have n3_ := aM (kB (g := gb144) (o := .cells #[.int .i64 a0_0, .slice A0_1 l0_1.length c0_1, .slice A0_2 l0_2.length c0_2, .slice A0_3 l0_3.length c0_3] 31 (0, 0)) (kl BK144) hb); have n4_ := aM (bS (bl) hb); have n5_ := aM (hbox); have n6_ := aM ((by rw [hg]; exact (below_size (bl)) : w.heap.size ≤ gb145)); have n7_ := aM ((by rw [hg]; exact (below_size (bl)) : w.heap.size ≤ gb145)); have n8_ := aM ((by rw [hg]; exact Nat.ne_of_lt (blk_lt (g := gb144) (o := .cells #[.int .i64 a0_0, .slice A0_1 l0_1.length c0_1, .slice A0_2 l0_2.length c0_2, .slice A0_3 l0_3.length c0_3] 31 (0, 0)) (kl BK144)) : gb144 ≠ gb145)); have n9_ := aM ((by rw [hg]; exact Nat.ne_of_gt (blk_lt (g := gb144) (o := .cells #[.int .i64 a0_0, .slice A0_1 l0_1.length c0_1, .slice A0_2 l0_2.length c0_2, .slice A0_3 l0_3.length c0_3] 31 (0, 0)) (kl BK144)) : gb145 ≠ gb144)); clear HO0_1 HO0_2 HO0_3 BK144 HB; have HO0_1 := n0_; have HO0_2 := n1_; have HO0_3 := n2_; have BK144 := n3_; have HB := n4_; have BK145 := n5_; have GW145 := n6_; have GE145 := n7_; have NB144_145 := n8_; have NB145_144 := n9_; clear n0_ n1_ n2_ n3_ n4_ n5_ n6_ n7_ n8_ n9_ hb hbox hg; have hnb36 := NB144_145.out; have hnc36 := NB145_144.out; have hcz37_0 : w35.cell? ⟨gb144, 0, none⟩ = some (.int .i64 a0_0) := (kC BK144.out 0).trans rfl; have hcz37_1 : w35.cell? ⟨gb144, 1, none⟩ = some (.slice A0_1 l0_1.length c0_1) := (kC BK144.out 1).trans rfl; have hcz37_2 : w35.cell? ⟨gb144, 2, none⟩ = some (.slice A0_2 l0_2.length c0_2) := (kC BK144.out 2).trans rfl; have hcz37_3 : w35.cell? ⟨gb144, 3, none⟩ = some (.slice A0_3 l0_3.length c0_3) := (kC BK144.out 3).trans rfl; have hfz37_0 := kF BK144.out 0; have hfz37_1 := kF BK144.out 1; have hfz37_2 := kF BK144.out 2; have hfz37_3 := kF BK144.out 3) | ((with_reducible refine gate_callee (f := 31) rfl ?_); refine goesL_ (some 9) rfl rfl Try.func31 (by kernel_rfl) rfl #[.agg #[.int .i64 a0_0, .slice A0_1 l0_1.length c0_1, .slice A0_2 l0_2.length c0_2, .slice A0_3 l0_3.length c0_3]] rfl (by (try simp only [List.map_toArray, List.map_cons, List.map_nil]); first | done | rfl | (simp only [List.length_drop, List.length_take]; rfl)) ?_; (with_reducible refine (generalize_valid.calls a0_0 _ _ l0_1 _ _ l0_2 _ _ l0_3 false _ ?side1 ?side2 ?side3 ?side4 ?side5 ?side6 A4.out).mono ?_); (case side1 => repeat (first | exact (Kd.V_reads' HO0_1.out).2.2 | (with_reducible refine cA ?_ _) | (with_reducible refine cN ?_ _) | (with_reducible refine cD ?_))); (case side2 => exact (Kd.V_reads' HO0_1.out).2.1); (case side3 => repeat (first | exact (Kd.V_reads' HO0_2.out).2.2 | (with_reducible refine cA ?_ _) | (with_reducible refine cN ?_ _) | (with_reducible refine cD ?_))); (case side4 => exact (Kd.V_reads' HO0_2.out).2.1); (case side5 => repeat (first | exact (Kd.V_reads' HO0_3.out).2.2 | (with_reducible refine cA ?_ _) | (with_reducible refine cN ?_ _) | (with_reducible refine cD ?_))); (case side6 => exact (Kd.V_reads' HO0_3.out).2.1); rintro e w38 ⟨rfl, hb⟩; refine ⟨_, rfl, ?_⟩; have n0_ := aM (Kd.V_below (by (with_reducible repeat (first | apply Kd.V_alloc | apply Kd.V_drewN | apply Kd.V_drew)); exact HO0_1.out) hb); have n1_ := aM (Kd.V_below (by (with_reducible repeat (first | apply Kd.V_alloc | apply Kd.V_drewN | apply Kd.V_drew)); exact HO0_2.out) hb); have n2_ := aM (Kd.V_below (by (with_reducible repeat (first | apply Kd.V_alloc | apply Kd.V_drewN | apply Kd.V_drew)); exact HO0_3.out) hb); have n3_ := aM (kB (g := gb144) (o := .cells #[.int .i64 a0_0, .slice A0_1 l0_1.length c0_1, .slice A0_2 l0_2.length c0_2, .slice A0_3 l0_3.length c0_3] 31 (0, 0)) (kl BK144) hb); have n4_ := aM (kB (g := gb145) (o := .cells #[.int .i64 0, .slice none 0 0, .slice none 0 0, .slice none 0 0] 31 (0, 0)) (kl BK145) hb); have n5_ := aM (bS (bl) hb); clear HO0_1 HO0_2 HO0_3 BK144 BK145 HB; have HO0_1 := n0_; have HO0_2 := n1_; have HO0_3 := n2_; have BK144 := n3_; have BK145 := n4_; have HB := n5_; clear n0_ n1_ n2_ n3_ n4_ n5_; (try clear hb); (try clear hb2); (try clear hk); (try clear hi); have hcz39_0 : w38.cell? ⟨gb144, 0, none⟩ = some (.int .i64 a0_0) := (kC BK144.out 0).trans rfl; have hcz39_1 : w38.cell? ⟨gb144, 1, none⟩ = some (.slice A0_1 l0_1.length c0_1) := (kC BK144.out 1).trans rfl; have hcz39_2 : w38.cell? ⟨gb144, 2, none⟩ = some (.slice A0_2 l0_2.length c0_2) := (kC BK144.out 2).trans rfl; have hcz39_3 : w38.cell? ⟨gb144, 3, none⟩ = some (.slice A0_3 l0_3.length c0_3) := (kC BK144.out 3).trans rfl; have hfz39_0 := kF BK144.out 0; have hfz39_1 := kF BK144.out 1; have hfz39_2 := kF BK144.out 2; have hfz39_3 := kF BK144.out 3; have hcz40_0 : w38.cell? ⟨gb145, 0, none⟩ = some (.int .i64 0) := (kC BK145.out 0).trans rfl; have hcz40_1 : w38.cell? ⟨gb145, 1, none⟩ = some (.slice none 0 0) := (kC BK145.out 1).trans rfl; have hcz40_2 : w38.cell? ⟨gb145, 2, none⟩ = some (.slice none 0 0) := (kC BK145.out 2).trans rfl; have hcz40_3 : w38.cell? ⟨gb145, 3, none⟩ = some (.slice none 0 0) := (kC BK145.out 3).trans rfl; have hfz40_0 := kF BK145.out 0; have hfz40_1 := kF BK145.out 1; have hfz40_2 := kF BK145.out 2; have hfz40_3 := kF BK145.out 3))
  refine bodyPost_ret (results_cell_row rfl _ _ gb145 31 #[.int .i64 a0_0, .slice A0_1 l0_1.length c0_1, .slice A0_2 l0_2.length c0_2, .slice A0_3 l0_3.length c0_3] (0, 0) _ rfl (by (with_reducible repeat (first | refine kN ?_ _ | refine kD ?_ | refine kA ?_ _)); refine kP (cs := #[.int .i64 a0_0, .slice A0_1 l0_1.length c0_1, .slice A0_2 l0_2.length c0_2, .slice none 0 0]) ?_ 3 _ rfl; (with_reducible repeat (first | refine kN ?_ _ | refine kD ?_ | refine kA ?_ _)); refine kP (cs := #[.int .i64 a0_0, .slice A0_1 l0_1.length c0_1, .slice none 0 0, .slice none 0 0]) ?_ 2 _ rfl; (with_reducible repeat (first | refine kN ?_ _ | refine kD ?_ | refine kA ?_ _)); refine kP (cs := #[.int .i64 a0_0, .slice none 0 0, .slice none 0 0, .slice none 0 0]) ?_ 1 _ rfl; (with_reducible repeat (first | refine kN ?_ _ | refine kD ?_ | refine kA ?_ _)); refine kP (cs := #[.int .i64 0, .slice none 0 0, .slice none 0 0, .slice none 0 0]) ?_ 0 _ rfl; (with_reducible repeat (first | refine kN ?_ _ | refine kD ?_ | refine kA ?_ _)); exact BK145.out) Try.underlying31 rfl (by kernel_rfl)) rfl ?_
  exact ⟨_, _, _, by first | rfl | (simp [errW_none, errW_some] <;> rfl) | (simp [*, errW_none, errW_some] <;> rfl), by (with_reducible repeat (first | apply Kd.V_alloc | apply Kd.V_drewN | apply Kd.V_drew)); exact Kd.V_mono (Kd.V_far (p := ⟨gb145, 3, none⟩) (Kd.V_far (p := ⟨gb145, 2, none⟩) (Kd.V_far (p := ⟨gb145, 1, none⟩) (Kd.V_far (p := ⟨gb145, 0, none⟩) (Kd.V_mono HO0_1.out (fun k_ hk => (⟨hk, hk.2⟩ : _ ∧ k_ ≠ gb145))) (fun _ hk => hk.2) (.int .i64 a0_0)) (fun _ hk => hk.2) (.slice A0_1 l0_1.length c0_1)) (fun _ hk => hk.2) (.slice A0_2 l0_2.length c0_2)) (fun _ hk => hk.2) (.slice A0_3 l0_3.length c0_3)) (fun _ hk => hk.1.1.1), by (with_reducible repeat (first | apply Kd.V_alloc | apply Kd.V_drewN | apply Kd.V_drew)); exact Kd.V_mono (Kd.V_far (p := ⟨gb145, 3, none⟩) (Kd.V_far (p := ⟨gb145, 2, none⟩) (Kd.V_far (p := ⟨gb145, 1, none⟩) (Kd.V_far (p := ⟨gb145, 0, none⟩) (Kd.V_mono HO0_2.out (fun k_ hk => (⟨hk, hk.2⟩ : _ ∧ k_ ≠ gb145))) (fun _ hk => hk.2) (.int .i64 a0_0)) (fun _ hk => hk.2) (.slice A0_1 l0_1.length c0_1)) (fun _ hk => hk.2) (.slice A0_2 l0_2.length c0_2)) (fun _ hk => hk.2) (.slice A0_3 l0_3.length c0_3)) (fun _ hk => hk.1.1.1), by (with_reducible repeat (first | apply Kd.V_alloc | apply Kd.V_drewN | apply Kd.V_drew)); exact Kd.V_mono (Kd.V_far (p := ⟨gb145, 3, none⟩) (Kd.V_far (p := ⟨gb145, 2, none⟩) (Kd.V_far (p := ⟨gb145, 1, none⟩) (Kd.V_far (p := ⟨gb145, 0, none⟩) (Kd.V_mono HO0_3.out (fun k_ hk => (⟨hk, hk.2⟩ : _ ∧ k_ ≠ gb145))) (fun _ hk => hk.2) (.int .i64 a0_0)) (fun _ hk => hk.2) (.slice A0_1 l0_1.length c0_1)) (fun _ hk => hk.2) (.slice A0_2 l0_2.length c0_2)) (fun _ hk => hk.2) (.slice A0_3 l0_3.length c0_3)) (fun _ hk => hk.1.1.1), bl⟩
end Go.Proofs.Ytpgbfjndgbfhnaa.PAll
