-- out of a driver of this session's prover over the kit's print: Lean checks it
import Derived.Test.YtijoaohckgbneaaGreatPAllx0
namespace Go.Proofs.YtijoaohckgbneaaGreat.PAll
open Go.Proofs.YtijoaohckgbneaaGreatG Go.Shelf Go.Lib
open Go.RowKit Go.Proofs.YtijoaohckgbneaaGreatW.PrintWords Go.Proofs.YtijoaohckgbneaaGreatW.PrintLast Go.Proofs.YtijoaohckgbneaaGreatW.PrintMore
attribute [local go_sem] max2_int min2_int max_two min_two max_three min_three max_four min_four   -- for this text's walks alone
set_option linter.unusedVariables false
set_option linter.unusedSimpArgs false
def mapmakerref14_id.j0 : Nat → Int → Int → Bool → Option (Int)
 | 0, _, _, _ => none
 | k + 1, x0, x1, x10 => if x10 = true then (some 2) else (if x0 ≤ x1 then (some 6) else (some 0))
def mapmakerref14_id.f (k : Nat) (a0 : Int) (a1 : Int) : Option (Int) := if a0 < 1 then (mapmakerref14_id.j0 k a0 a1 true) else (mapmakerref14_id.j0 k a0 a1 (decide (a0 > 2147483647)))
theorem mapmakerref14_id.mono_l : ∀ k, (∀ y0 y1 y2, LeO (mapmakerref14_id.j0 k y0 y1 y2) (mapmakerref14_id.j0 (k + 1) y0 y1 y2))
 | 0 => fun _ _ _ r h => by simp [mapmakerref14_id.j0] at h
 | k + 1 => by
  have ih0 := mapmakerref14_id.mono_l k
  ·intro y0 y1 y2
   unfold mapmakerref14_id.j0
   repeat' first
   | (with_reducible exact ih0 _ _ _)
   | (with_reducible exact LeO.refl _)
   | (with_reducible exact LeO.none _)
   | (with_reducible refine LeO.ite ?_ ?_)
   | (with_reducible refine LeO.bind ?_ (fun _ => ?_))
   | exact ih0 _ _ _
   | exact LeO.none _
   | refine LeO.ite ?_ ?_
   | refine LeO.bind ?_ (fun _ => ?_)
theorem mapmakerref14_id.mono : ∀ a0 a1 k, LeO (mapmakerref14_id.f k a0 a1) (mapmakerref14_id.f (k + 1) a0 a1) := by
 intro a0 a1 k; have ih0 := mapmakerref14_id.mono_l k; unfold mapmakerref14_id.f
 repeat' first
   | (with_reducible exact ih0 _ _ _)
   | (with_reducible exact LeO.refl _)
   | (with_reducible exact LeO.none _)
   | (with_reducible refine LeO.ite ?_ ?_)
   | (with_reducible refine LeO.bind ?_ (fun _ => ?_))
   | exact ih0 _ _ _
   | exact LeO.none _
   | refine LeO.ite ?_ ?_
   | refine LeO.bind ?_ (fun _ => ?_)
set_option maxHeartbeats 8000000 in
set_option maxRecDepth 100000 in
theorem mapmakerref14_id.calls (k : Nat) (a0 : Int) (a1 : Int) (r : Int) (w : World) (h : mapmakerref14_id.f k a0 a1 = some r) :
  Calls Tryz.prog 40 #[.int .i64 a0, .int .i64 a1] w fun e w' => e = .returned (.int .i64 r) ∧ Drawn0 w w' := by
 have H : (if a0 < 1 then (mapmakerref14_id.j0 k a0 a1 true) else (mapmakerref14_id.j0 k a0 a1 (decide (a0 > 2147483647)))) = some r := h; clear h; have HC3 := aM H; clear H; go_enter Tryz.func40, Tryz.ntmps40
 go_upto_region 1 with (fail)
 go_cut [10] (fun v10 wc => ∃ (kq : Nat) (x10_2 : Bool), v10 = .bool x10_2 ∧ Aside0 (mapmakerref14_id.j0 kq a0 a1 x10_2 = some r) ∧ Aside0 (kq ≤ k) ∧ Drawn0 w wc)
 case first =>
  have H := HC3.out; clear HC3
  by_cases c4 : a0 < 1
  ·rw [if_pos c4] at H; have c4b0 : decide (a0 < 1) = true := decide_eq_true c4; clear c4
   (first | rw [c4b0] | (simp only [i64_w, i32_w]; rw [c4b0]) | skip)
   have H' := aM H; clear H
   go_wp2
   go_meet
   case rel => exact ⟨_, (true), (by first | rfl | (simp; done) | (simp [*]; done)), H', ⟨by first | omega | exact Nat.le_refl _⟩, by repeat (first | exact Drawn0.refl _ | apply Drawn0.step)⟩
  ·rw [if_neg c4] at H; have c4b0 : decide (a0 < 1) = false := decide_eq_false c4; clear c4
   (first | rw [c4b0] | (simp only [i64_w, i32_w]; rw [c4b0]) | skip)
   have H' := aM H; clear H
   go_wp2
   go_meet
   case rel => exact ⟨_, (decide (a0 > 2147483647)), (by first | rfl | (simp; done) | (simp [*]; done)), H', ⟨by first | omega | exact Nat.le_refl _⟩, by repeat (first | exact Drawn0.refl _ | apply Drawn0.step)⟩
 case rest =>
  clear HC3; (try clear c4); (try clear c4b0); obtain ⟨kq, x10_2, rfl, HA, HJ2, ⟨mc2, rfl⟩⟩ := hcut
  cases kq with
  | zero => exact absurd HA.out (by simp [mapmakerref14_id.j0])
  | succ kj2 =>
   have H := HA.out; clear HA; simp only [mapmakerref14_id.j0] at H
   by_cases c5 : x10_2 = true
   ·subst c5; have H1 : (some 2) = some r := by rw [if_pos rfl] at H; exact H
    clear H; have H := H1; clear H1; obtain rfl := Option.some.inj H
    go_wp2
    go_ret; exact ⟨by first | rfl | (simp; done) | (simp [*]; done), by repeat (first | exact Drawn0.refl _ | apply Drawn0.step)⟩
   ·replace c5 := Bool.eq_false_iff.mpr c5; subst c5; have H1 : (if a0 ≤ a1 then (some 6) else (some 0)) = some r := by rw [if_neg (show ¬ (false = true) by decide)] at H; exact H
    clear H; have H := H1; clear H1
    by_cases c6 : a0 ≤ a1
    ·rw [if_pos c6] at H; have c6b0 : decide (a0 ≤ a1) = true := decide_eq_true c6; clear c6; obtain rfl := Option.some.inj H
     go_wp2
     go_ret; exact ⟨by first | rfl | (simp; done) | (simp [*]; done), by repeat (first | exact Drawn0.refl _ | apply Drawn0.step)⟩
    ·rw [if_neg c6] at H; have c6b0 : decide (a0 ≤ a1) = false := decide_eq_false c6; clear c6; obtain rfl := Option.some.inj H
     go_wp2
     go_ret; exact ⟨by first | rfl | (simp; done) | (simp [*]; done), by repeat (first | exact Drawn0.refl _ | apply Drawn0.step)⟩
def mapmakerref06_inTag.f (a0_0 : ByteArray) (a0_1 : ByteArray) : Option (Bool) := if (a0_0.size : Int) ≥ 1 then (if (a0_0.size : Int) ≤ 64 then (some (decide ((a0_1.size : Int) ≤ 64))) else (some false)) else (some false)
set_option maxHeartbeats 8000000 in
set_option maxRecDepth 100000 in
theorem mapmakerref06_inTag.calls (a0_0 : ByteArray) (a0_1 : ByteArray) (r : Bool) (w : World) (h : mapmakerref06_inTag.f a0_0 a0_1 = some r) :
  Calls Tryz.prog 82 #[.agg #[.string a0_0, .string a0_1]] w fun e w' => e = .returned (.bool r) ∧ Below w.heap.size w w' := by
 have hu129 := Tryz.underlying129; have HB := aM (Below.refl w.heap.size w); have H : (if (a0_0.size : Int) ≥ 1 then (if (a0_0.size : Int) ≤ 64 then (some (decide ((a0_1.size : Int) ≤ 64))) else (some false)) else (some false)) = some r := h; clear h
 by_cases c2 : (a0_0.size : Int) ≥ 1
 ·rw [if_pos c2] at H; have c2b0 : decide (1 ≤ (a0_0.size : Int)) = true := decide_eq_true c2; have c2b1 : decide (1 ≤ a0_0.size) = true := decide_eq_true (by omega); clear c2
  by_cases c3 : (a0_0.size : Int) ≤ 64
  ·rw [if_pos c3] at H; have c3b0 : decide ((a0_0.size : Int) ≤ 64) = true := decide_eq_true c3; have c3b1 : decide (a0_0.size ≤ 64) = true := decide_eq_true (by omega); clear c3; obtain rfl := Option.some.inj H; go_enter Tryz.func82, Tryz.ntmps82
   go_wp2_with (first | ((with_reducible refine gate_dst (N := 1) rfl ?_); (try (refine gate_guard (by rfl) ?_; dsimp only)); refine bx (N := 1) (cs := #[.string a0_0, .string a0_1]) (t := 129) ?_; intro gb162 hg w4 hbox hb; have BK162 := aM (hbox); have GE162 := aM (gw (w := w) hg); replace HB := aM (bS (bl) hb); clear hb hbox hg; have hz5 := bc2 BK162))
   go_ret; exact ⟨by first | rfl | (simp [errW_none, errW_some] <;> rfl) | (simp [*, errW_none, errW_some] <;> rfl), bl⟩
  ·rw [if_neg c3] at H; have c3b0 : decide ((a0_0.size : Int) ≤ 64) = false := decide_eq_false c3; have c3b1 : decide (a0_0.size ≤ 64) = false := decide_eq_false (by omega); clear c3; obtain rfl := Option.some.inj H; go_enter Tryz.func82, Tryz.ntmps82
   go_wp2_with (first | ((with_reducible refine gate_dst (N := 1) rfl ?_); (try (refine gate_guard (by rfl) ?_; dsimp only)); refine bx (N := 1) (cs := #[.string a0_0, .string a0_1]) (t := 129) ?_; intro gb162 hg w6 hbox hb; have BK162 := aM (hbox); have GE162 := aM (gw (w := w) hg); replace HB := aM (bS (bl) hb); clear hb hbox hg; have hz7 := bc2 BK162))
   go_ret; exact ⟨by first | rfl | (simp [errW_none, errW_some] <;> rfl) | (simp [*, errW_none, errW_some] <;> rfl), bl⟩
 ·rw [if_neg c2] at H; have c2b0 : decide (1 ≤ (a0_0.size : Int)) = false := decide_eq_false c2; have c2b1 : decide (1 ≤ a0_0.size) = false := decide_eq_false (by omega); clear c2; obtain rfl := Option.some.inj H; go_enter Tryz.func82, Tryz.ntmps82
  go_wp2_with (first | ((with_reducible refine gate_dst (N := 1) rfl ?_); (try (refine gate_guard (by rfl) ?_; dsimp only)); refine bx (N := 1) (cs := #[.string a0_0, .string a0_1]) (t := 129) ?_; intro gb162 hg w8 hbox hb; have BK162 := aM (hbox); have GE162 := aM (gw (w := w) hg); replace HB := aM (bS (bl) hb); clear hb hbox hg; have hz9 := bc2 BK162))
  go_ret; exact ⟨by first | rfl | (simp [errW_none, errW_some] <;> rfl) | (simp [*, errW_none, errW_some] <;> rfl), bl⟩
def mapmakerref06_Check.l0 : Nat → List (S129) → Int → Option (Int)
 | 0, _, _ => none
 | k + 1, x0, x3 => if x3 < (x0.length : Int) then (if 0 ≤ x3 then ((mapmakerref06_inTag.f ((rd_T129 x0 x3).f0) ((rd_T129 x0 x3).f1)).bind fun t164 => (if t164 = true then (if x3 > 0 then (if 0 ≤ (wrap64 (x3 - 1)) then (if (wrap64 (x3 - 1)) < (x0.length : Int) then (if ((Op.bytesLess (((rd_T129 x0 (wrap64 (x3 - 1))).f0).toList) (((rd_T129 x0 x3).f0).toList)) = true) then (mapmakerref06_Check.l0 k x0 (wrap64 (x3 + 1))) else (some 6)) else (none)) else (none)) else (mapmakerref06_Check.l0 k x0 (wrap64 (x3 + 1)))) else (some 10))) else (none)) else (some 0)
def mapmakerref06_Check.f (k : Nat) (l0 : List (S129)) : Option (Int) := if (l0.length : Int) > 16 then (some 5) else (mapmakerref06_Check.l0 k l0 0)
theorem mapmakerref06_Check.mono_l : ∀ k, (∀ y0 y1, LeO (mapmakerref06_Check.l0 k y0 y1) (mapmakerref06_Check.l0 (k + 1) y0 y1))
 | 0 => fun _ _ r h => by simp [mapmakerref06_Check.l0] at h
 | k + 1 => by
  have ih0 := mapmakerref06_Check.mono_l k
  ·intro y0 y1
   unfold mapmakerref06_Check.l0
   repeat' first
   | (with_reducible exact ih0 _ _)
   | (with_reducible exact LeO.refl _)
   | (with_reducible exact LeO.none _)
   | (with_reducible refine LeO.ite ?_ ?_)
   | (with_reducible refine LeO.bind ?_ (fun _ => ?_))
   | exact ih0 _ _
   | exact LeO.none _
   | refine LeO.ite ?_ ?_
   | refine LeO.bind ?_ (fun _ => ?_)
theorem mapmakerref06_Check.mono : ∀ a0 k, LeO (mapmakerref06_Check.f k a0) (mapmakerref06_Check.f (k + 1) a0) := by
 intro a0 k; have ih0 := mapmakerref06_Check.mono_l k; unfold mapmakerref06_Check.f
 repeat' first
   | (with_reducible exact ih0 _ _)
   | (with_reducible exact LeO.refl _)
   | (with_reducible exact LeO.none _)
   | (with_reducible refine LeO.ite ?_ ?_)
   | (with_reducible refine LeO.bind ?_ (fun _ => ?_))
   | exact ih0 _ _
   | exact LeO.none _
   | refine LeO.ite ?_ ?_
   | refine LeO.bind ?_ (fun _ => ?_)
set_option maxHeartbeats 8000000 in
set_option maxRecDepth 100000 in
theorem mapmakerref06_Check.calls (k : Nat) (A0 : Option Addr) (c0 : Nat) (l0 : List (S129)) (r : Int) (w : World) (hr0 : Kd.C k129 w A0 l0.length l0) (hc0 : l0.length ≤ c0) (h : mapmakerref06_Check.f k l0 = some r) :
  Calls Tryz.prog 63 #[.slice A0 l0.length c0] w fun e w' => e = .returned (.int .i64 r) ∧ Below w.heap.size w w' := by
 have hu129 := Tryz.underlying129; have HR0 := aM hr0; have HC0 := aM hc0; clear hr0 hc0; have HB := aM (Below.refl w.heap.size w); have H : (if (l0.length : Int) > 16 then (some 5) else (mapmakerref06_Check.l0 k l0 0)) = some r := h; clear h
 by_cases c2 : (l0.length : Int) > 16
 ·rw [if_pos c2] at H; have c2b0 : decide (16 < (l0.length : Int)) = true := decide_eq_true c2; have c2b1 : decide (16 < l0.length) = true := decide_eq_true (by omega); clear c2; obtain rfl := Option.some.inj H; go_enter Tryz.func63, Tryz.ntmps63
  go_wp2
  repeat (go_quiet (fail); try go_wp2)
  go_ret; exact ⟨by first | rfl | (simp [errW_none, errW_some] <;> rfl) | (simp [*, errW_none, errW_some] <;> rfl), bl⟩
 ·rw [if_neg c2] at H; have c2b0 : decide (16 < (l0.length : Int)) = false := decide_eq_false c2; have c2b1 : decide (16 < l0.length) = false := decide_eq_false (by omega); clear c2; have H' := aM H; clear H; go_enter Tryz.func63, Tryz.ntmps63
  go_wp2
  repeat (go_quiet (fail); try go_wp2)
  go_loopg [3] k (fun kq v3 w' => ∃ (x3_1 : Int), v3 = .int .i64 x3_1 ∧ Aside0 (mapmakerref06_Check.l0 kq l0 x3_1 = some r) ∧ Aside0 (kq ≤ k) ∧ Aside0 (Below w.heap.size w w'))
  case atStart => exact ⟨(0), (by first | rfl | (simp; done) | (simp [*]; done)), H', ⟨Nat.le_refl _⟩, ⟨bl⟩⟩
  case round =>
   clear H'; (try clear c2); (try clear c2b0); (try clear c2b1); obtain ⟨x3_1, rfl, HA, HK1, HB⟩ := hrel
   cases gk with
   | zero => exact absurd HA.out (by simp [mapmakerref06_Check.l0])
   | succ k1 =>
    have H := HA.out; clear HA; simp only [mapmakerref06_Check.l0] at H
    by_cases c3 : x3_1 < (l0.length : Int)
    ·rw [if_pos c3] at H; have c3b0 : decide (x3_1 < (l0.length : Int)) = true := decide_eq_true c3; clear c3
     by_cases c4 : 0 ≤ x3_1
     ·rw [if_pos c4] at H; have c4b0 : decide (0 ≤ x3_1) = true := decide_eq_true c4; clear c4; replace H := Option.bind_eq_some_iff.mp H; obtain ⟨t164, A50, H⟩ := H; (try dsimp only at H); have A5 := aM A50; clear A50
      by_cases c6 : t164 = true
      ·subst c6; have H1 : (if x3_1 > 0 then (if 0 ≤ (wrap64 (x3_1 - 1)) then (if (wrap64 (x3_1 - 1)) < (l0.length : Int) then (if ((Op.bytesLess (((rd_T129 l0 (wrap64 (x3_1 - 1))).f0).toList) (((rd_T129 l0 x3_1).f0).toList)) = true) then (mapmakerref06_Check.l0 k1 l0 (wrap64 (x3_1 + 1))) else (some 6)) else (none)) else (none)) else (mapmakerref06_Check.l0 k1 l0 (wrap64 (x3_1 + 1)))) = some r := by rw [if_pos rfl] at H; exact H
       clear H; have H := H1; clear H1
       by_cases c7 : x3_1 > 0
       ·rw [if_pos c7] at H; have c7b0 : decide (0 < x3_1) = true := decide_eq_true c7; clear c7; obtain ⟨ji8, hji8⟩ : ∃ j_ : Int, (wrap64 (x3_1 - 1)) = j_ := ⟨_, rfl⟩; replace H : (if 0 ≤ (ji8) then (if (ji8) < (l0.length : Int) then (if ((Op.bytesLess (((rd_T129 l0 (ji8)).f0).toList) (((rd_T129 l0 x3_1).f0).toList)) = true) then (mapmakerref06_Check.l0 k1 l0 (wrap64 (x3_1 + 1))) else (some 6)) else (none)) else (none)) = some r := by first | (rw [hji8] at H; exact H) | (simp only [hji8] at H ⊢; exact H)
        (try rw [hji8] at A5)
        have hji8w : (IntKind.i64.wrap (x3_1 - 1)) = ji8 := (i64_w _).trans hji8
        by_cases c9 : 0 ≤ (ji8)
        ·rw [if_pos c9] at H; have c9b0 : decide (0 ≤ (ji8)) = true := decide_eq_true c9; clear c9
         by_cases c10 : (ji8) < (l0.length : Int)
         ·rw [if_pos c10] at H; have c10b0 : decide ((ji8) < (l0.length : Int)) = true := decide_eq_true c10; clear c10
          by_cases c11 : ((Op.bytesLess (((rd_T129 l0 (ji8)).f0).toList) (((rd_T129 l0 x3_1).f0).toList)) = true)
          ·rw [if_pos c11] at H; have c11b0 : (Op.bytesLess (((rd_T129 l0 (ji8)).f0).toList) (((rd_T129 l0 x3_1).f0).toList)) = true := c11; clear c11; have H' := aM H; clear H; have p163 : 0 ≤ (x3_1 : Int) := oT; have q163 : x3_1 < (l0.length : Int) := oT; obtain ⟨ad163, e163, hx163_0, hx163_1⟩ := at_T129 HR0.out x3_1 p163 q163; cases e163
           replace hx163_0 := hs HB.out hx163_0; replace hx163_1 := hs HB.out hx163_1; replace p163 := eq_true p163; replace q163 := eq_true q163
           go_wp2_with (first | (go_at_call 82; (with_reducible refine (mapmakerref06_inTag.calls ((rd_T129 l0 x3_1).f0) ((rd_T129 l0 x3_1).f1) true _ A5.out).mono ?_); rintro e w12 ⟨rfl, hb⟩; replace HB := aM (bS (bl) hb); (try clear hb); have p165 : 0 ≤ ((ji8) : Int) := of_decide_eq_true (by first | (with_reducible assumption) | assumption); have q165 : (ji8) < (l0.length : Int) := of_decide_eq_true (by first | (with_reducible assumption) | assumption); obtain ⟨ad165, e165, hx165_0, hx165_1⟩ := at_T129 HR0.out (ji8) p165 q165; obtain rfl : ad163 = ad165 := (by injection e165); replace hx165_0 := (HB.out.cell (World.block_lt_of_cell? w _ hx165_0)).trans hx165_0; replace hx165_1 := (HB.out.cell (World.block_lt_of_cell? w _ hx165_1)).trans hx165_1; replace p165 := eq_true p165; replace q165 := eq_true q165; have p166 : 0 ≤ (x3_1 : Int) := of_decide_eq_true (by first | (with_reducible assumption) | assumption); have q166 : x3_1 < (l0.length : Int) := of_decide_eq_true (by first | (with_reducible assumption) | assumption); obtain ⟨ad166, e166, hx166_0, hx166_1⟩ := at_T129 HR0.out x3_1 p166 q166; obtain rfl : ad163 = ad166 := (by injection e166); replace hx166_0 := (HB.out.cell (World.block_lt_of_cell? w _ hx166_0)).trans hx166_0; replace hx166_1 := (HB.out.cell (World.block_lt_of_cell? w _ hx166_1)).trans hx166_1; replace p166 := eq_true p166; replace q166 := eq_true q166))
           repeat (go_quiet (first | (go_at_call 82; (with_reducible refine (mapmakerref06_inTag.calls ((rd_T129 l0 x3_1).f0) ((rd_T129 l0 x3_1).f1) true _ A5.out).mono ?_); rintro e w12 ⟨rfl, hb⟩; replace HB := aM (bS (bl) hb); (try clear hb); have p165 : 0 ≤ ((ji8) : Int) := of_decide_eq_true (by first | (with_reducible assumption) | assumption); have q165 : (ji8) < (l0.length : Int) := of_decide_eq_true (by first | (with_reducible assumption) | assumption); obtain ⟨ad165, e165, hx165_0, hx165_1⟩ := at_T129 HR0.out (ji8) p165 q165; obtain rfl : ad163 = ad165 := (by injection e165); replace hx165_0 := (HB.out.cell (World.block_lt_of_cell? w _ hx165_0)).trans hx165_0; replace hx165_1 := (HB.out.cell (World.block_lt_of_cell? w _ hx165_1)).trans hx165_1; replace p165 := eq_true p165; replace q165 := eq_true q165; have p166 : 0 ≤ (x3_1 : Int) := of_decide_eq_true (by first | (with_reducible assumption) | assumption); have q166 : x3_1 < (l0.length : Int) := of_decide_eq_true (by first | (with_reducible assumption) | assumption); obtain ⟨ad166, e166, hx166_0, hx166_1⟩ := at_T129 HR0.out x3_1 p166 q166; obtain rfl : ad163 = ad166 := (by injection e166); replace hx166_0 := (HB.out.cell (World.block_lt_of_cell? w _ hx166_0)).trans hx166_0; replace hx166_1 := (HB.out.cell (World.block_lt_of_cell? w _ hx166_1)).trans hx166_1; replace p166 := eq_true p166; replace q166 := eq_true q166)); try go_wp2_with (first | (go_at_call 82; (with_reducible refine (mapmakerref06_inTag.calls ((rd_T129 l0 x3_1).f0) ((rd_T129 l0 x3_1).f1) true _ A5.out).mono ?_); rintro e w12 ⟨rfl, hb⟩; replace HB := aM (bS (bl) hb); (try clear hb); have p165 : 0 ≤ ((ji8) : Int) := of_decide_eq_true (by first | (with_reducible assumption) | assumption); have q165 : (ji8) < (l0.length : Int) := of_decide_eq_true (by first | (with_reducible assumption) | assumption); obtain ⟨ad165, e165, hx165_0, hx165_1⟩ := at_T129 HR0.out (ji8) p165 q165; obtain rfl : ad163 = ad165 := (by injection e165); replace hx165_0 := (HB.out.cell (World.block_lt_of_cell? w _ hx165_0)).trans hx165_0; replace hx165_1 := (HB.out.cell (World.block_lt_of_cell? w _ hx165_1)).trans hx165_1; replace p165 := eq_true p165; replace q165 := eq_true q165; have p166 : 0 ≤ (x3_1 : Int) := of_decide_eq_true (by first | (with_reducible assumption) | assumption); have q166 : x3_1 < (l0.length : Int) := of_decide_eq_true (by first | (with_reducible assumption) | assumption); obtain ⟨ad166, e166, hx166_0, hx166_1⟩ := at_T129 HR0.out x3_1 p166 q166; obtain rfl : ad163 = ad166 := (by injection e166); replace hx166_0 := (HB.out.cell (World.block_lt_of_cell? w _ hx166_0)).trans hx166_0; replace hx166_1 := (HB.out.cell (World.block_lt_of_cell? w _ hx166_1)).trans hx166_1; replace p166 := eq_true p166; replace q166 := eq_true q166)))
           go_roundg k1
           case measure => have := HK1.out; omega
           case rel => exact ⟨(wrap64 (x3_1 + 1)), (by first | rfl | (simp; done) | (simp [*]; done)), H', ⟨by have := HK1.out; omega⟩, ⟨bl⟩⟩
          ·rw [if_neg c11] at H; have c11b0 : (Op.bytesLess (((rd_T129 l0 (ji8)).f0).toList) (((rd_T129 l0 x3_1).f0).toList)) = false := by simpa using c11
           clear c11; obtain rfl := Option.some.inj H; have p163 : 0 ≤ (x3_1 : Int) := oT; have q163 : x3_1 < (l0.length : Int) := oT; obtain ⟨ad163, e163, hx163_0, hx163_1⟩ := at_T129 HR0.out x3_1 p163 q163; cases e163
           replace hx163_0 := hs HB.out hx163_0; replace hx163_1 := hs HB.out hx163_1; replace p163 := eq_true p163; replace q163 := eq_true q163
           go_wp2_with (first | (go_at_call 82; (with_reducible refine (mapmakerref06_inTag.calls ((rd_T129 l0 x3_1).f0) ((rd_T129 l0 x3_1).f1) true _ A5.out).mono ?_); rintro e w13 ⟨rfl, hb⟩; replace HB := aM (bS (bl) hb); (try clear hb); have p165 : 0 ≤ ((ji8) : Int) := of_decide_eq_true (by first | (with_reducible assumption) | assumption); have q165 : (ji8) < (l0.length : Int) := of_decide_eq_true (by first | (with_reducible assumption) | assumption); obtain ⟨ad165, e165, hx165_0, hx165_1⟩ := at_T129 HR0.out (ji8) p165 q165; obtain rfl : ad163 = ad165 := (by injection e165); replace hx165_0 := (HB.out.cell (World.block_lt_of_cell? w _ hx165_0)).trans hx165_0; replace hx165_1 := (HB.out.cell (World.block_lt_of_cell? w _ hx165_1)).trans hx165_1; replace p165 := eq_true p165; replace q165 := eq_true q165; have p166 : 0 ≤ (x3_1 : Int) := of_decide_eq_true (by first | (with_reducible assumption) | assumption); have q166 : x3_1 < (l0.length : Int) := of_decide_eq_true (by first | (with_reducible assumption) | assumption); obtain ⟨ad166, e166, hx166_0, hx166_1⟩ := at_T129 HR0.out x3_1 p166 q166; obtain rfl : ad163 = ad166 := (by injection e166); replace hx166_0 := (HB.out.cell (World.block_lt_of_cell? w _ hx166_0)).trans hx166_0; replace hx166_1 := (HB.out.cell (World.block_lt_of_cell? w _ hx166_1)).trans hx166_1; replace p166 := eq_true p166; replace q166 := eq_true q166))
           repeat (go_quiet (first | (go_at_call 82; (with_reducible refine (mapmakerref06_inTag.calls ((rd_T129 l0 x3_1).f0) ((rd_T129 l0 x3_1).f1) true _ A5.out).mono ?_); rintro e w13 ⟨rfl, hb⟩; replace HB := aM (bS (bl) hb); (try clear hb); have p165 : 0 ≤ ((ji8) : Int) := of_decide_eq_true (by first | (with_reducible assumption) | assumption); have q165 : (ji8) < (l0.length : Int) := of_decide_eq_true (by first | (with_reducible assumption) | assumption); obtain ⟨ad165, e165, hx165_0, hx165_1⟩ := at_T129 HR0.out (ji8) p165 q165; obtain rfl : ad163 = ad165 := (by injection e165); replace hx165_0 := (HB.out.cell (World.block_lt_of_cell? w _ hx165_0)).trans hx165_0; replace hx165_1 := (HB.out.cell (World.block_lt_of_cell? w _ hx165_1)).trans hx165_1; replace p165 := eq_true p165; replace q165 := eq_true q165; have p166 : 0 ≤ (x3_1 : Int) := of_decide_eq_true (by first | (with_reducible assumption) | assumption); have q166 : x3_1 < (l0.length : Int) := of_decide_eq_true (by first | (with_reducible assumption) | assumption); obtain ⟨ad166, e166, hx166_0, hx166_1⟩ := at_T129 HR0.out x3_1 p166 q166; obtain rfl : ad163 = ad166 := (by injection e166); replace hx166_0 := (HB.out.cell (World.block_lt_of_cell? w _ hx166_0)).trans hx166_0; replace hx166_1 := (HB.out.cell (World.block_lt_of_cell? w _ hx166_1)).trans hx166_1; replace p166 := eq_true p166; replace q166 := eq_true q166)); try go_wp2_with (first | (go_at_call 82; (with_reducible refine (mapmakerref06_inTag.calls ((rd_T129 l0 x3_1).f0) ((rd_T129 l0 x3_1).f1) true _ A5.out).mono ?_); rintro e w13 ⟨rfl, hb⟩; replace HB := aM (bS (bl) hb); (try clear hb); have p165 : 0 ≤ ((ji8) : Int) := of_decide_eq_true (by first | (with_reducible assumption) | assumption); have q165 : (ji8) < (l0.length : Int) := of_decide_eq_true (by first | (with_reducible assumption) | assumption); obtain ⟨ad165, e165, hx165_0, hx165_1⟩ := at_T129 HR0.out (ji8) p165 q165; obtain rfl : ad163 = ad165 := (by injection e165); replace hx165_0 := (HB.out.cell (World.block_lt_of_cell? w _ hx165_0)).trans hx165_0; replace hx165_1 := (HB.out.cell (World.block_lt_of_cell? w _ hx165_1)).trans hx165_1; replace p165 := eq_true p165; replace q165 := eq_true q165; have p166 : 0 ≤ (x3_1 : Int) := of_decide_eq_true (by first | (with_reducible assumption) | assumption); have q166 : x3_1 < (l0.length : Int) := of_decide_eq_true (by first | (with_reducible assumption) | assumption); obtain ⟨ad166, e166, hx166_0, hx166_1⟩ := at_T129 HR0.out x3_1 p166 q166; obtain rfl : ad163 = ad166 := (by injection e166); replace hx166_0 := (HB.out.cell (World.block_lt_of_cell? w _ hx166_0)).trans hx166_0; replace hx166_1 := (HB.out.cell (World.block_lt_of_cell? w _ hx166_1)).trans hx166_1; replace p166 := eq_true p166; replace q166 := eq_true q166)))
           go_ret; exact ⟨by first | rfl | (simp [errW_none, errW_some] <;> rfl) | (simp only [← hji8]; first | rfl | (simp [errW_none, errW_some] <;> rfl)) | (simp [*, errW_none, errW_some] <;> rfl), bl⟩
         ·rw [if_neg c10] at H; exact absurd H (by simp)
        ·rw [if_neg c9] at H; exact absurd H (by simp)
       ·rw [if_neg c7] at H; have c7b0 : decide (0 < x3_1) = false := decide_eq_false c7; clear c7; have H' := aM H; clear H; have p163 : 0 ≤ (x3_1 : Int) := oT; have q163 : x3_1 < (l0.length : Int) := oT; obtain ⟨ad163, e163, hx163_0, hx163_1⟩ := at_T129 HR0.out x3_1 p163 q163; cases e163
        replace hx163_0 := hs HB.out hx163_0; replace hx163_1 := hs HB.out hx163_1; replace p163 := eq_true p163; replace q163 := eq_true q163
        go_wp2_with (first | (go_at_call 82; (with_reducible refine (mapmakerref06_inTag.calls ((rd_T129 l0 x3_1).f0) ((rd_T129 l0 x3_1).f1) true _ A5.out).mono ?_); rintro e w14 ⟨rfl, hb⟩; replace HB := aM (bS (bl) hb); (try clear hb)))
        repeat (go_quiet (first | (go_at_call 82; (with_reducible refine (mapmakerref06_inTag.calls ((rd_T129 l0 x3_1).f0) ((rd_T129 l0 x3_1).f1) true _ A5.out).mono ?_); rintro e w14 ⟨rfl, hb⟩; replace HB := aM (bS (bl) hb); (try clear hb))); try go_wp2_with (first | (go_at_call 82; (with_reducible refine (mapmakerref06_inTag.calls ((rd_T129 l0 x3_1).f0) ((rd_T129 l0 x3_1).f1) true _ A5.out).mono ?_); rintro e w14 ⟨rfl, hb⟩; replace HB := aM (bS (bl) hb); (try clear hb))))
        go_roundg k1
        case measure => have := HK1.out; omega
        case rel => exact ⟨(wrap64 (x3_1 + 1)), (by first | rfl | (simp; done) | (simp [*]; done)), H', ⟨by have := HK1.out; omega⟩, ⟨bl⟩⟩
      ·replace c6 := Bool.eq_false_iff.mpr c6; subst c6; have H1 : (some 10) = some r := by rw [if_neg (show ¬ (false = true) by decide)] at H; exact H
       clear H; have H := H1; clear H1; obtain rfl := Option.some.inj H; have p163 : 0 ≤ (x3_1 : Int) := oT; have q163 : x3_1 < (l0.length : Int) := oT; obtain ⟨ad163, e163, hx163_0, hx163_1⟩ := at_T129 HR0.out x3_1 p163 q163; cases e163
       replace hx163_0 := hs HB.out hx163_0; replace hx163_1 := hs HB.out hx163_1; replace p163 := eq_true p163; replace q163 := eq_true q163
       go_wp2_with (first | (go_at_call 82; (with_reducible refine (mapmakerref06_inTag.calls ((rd_T129 l0 x3_1).f0) ((rd_T129 l0 x3_1).f1) false _ A5.out).mono ?_); rintro e w15 ⟨rfl, hb⟩; replace HB := aM (bS (bl) hb); (try clear hb)))
       repeat (go_quiet (first | (go_at_call 82; (with_reducible refine (mapmakerref06_inTag.calls ((rd_T129 l0 x3_1).f0) ((rd_T129 l0 x3_1).f1) false _ A5.out).mono ?_); rintro e w15 ⟨rfl, hb⟩; replace HB := aM (bS (bl) hb); (try clear hb))); try go_wp2_with (first | (go_at_call 82; (with_reducible refine (mapmakerref06_inTag.calls ((rd_T129 l0 x3_1).f0) ((rd_T129 l0 x3_1).f1) false _ A5.out).mono ?_); rintro e w15 ⟨rfl, hb⟩; replace HB := aM (bS (bl) hb); (try clear hb))))
       go_ret; exact ⟨by first | rfl | (simp [errW_none, errW_some] <;> rfl) | (simp [*, errW_none, errW_some] <;> rfl), bl⟩
     ·rw [if_neg c4] at H; exact absurd H (by simp)
    ·rw [if_neg c3] at H; have c3b0 : decide (x3_1 < (l0.length : Int)) = false := decide_eq_false c3; clear c3; obtain rfl := Option.some.inj H
     go_wp2
     repeat (go_quiet (fail); try go_wp2)
     go_ret; exact ⟨by first | rfl | (simp [errW_none, errW_some] <;> rfl) | (simp [*, errW_none, errW_some] <;> rfl), bl⟩
mutual
def mapmakerref14_nodes.l0 : Nat → List (S37) → Int → Int → Option (Int)
 | 0, _, _, _ => none
 | k + 1, x0, x3, x4 => if x4 < (x0.length : Int) then (if 0 ≤ x4 then ((mapmakerref14_id.f k ((rd_T37 x0 x4).f0) x3).bind fun t169 => (if t169 = 0 then (if ((rd_T37 x0 x4).f1.f0) < (-1800000000) then (mapmakerref14_nodes.j1 k x0 x4 true ((rd_T37 x0 x4).f0) ((rd_T37 x0 x4).f1.f0) ((rd_T37 x0 x4).f1.f1) ((rd_T37 x0 x4).f2)) else (if ((rd_T37 x0 x4).f1.f0) > 1800000000 then (mapmakerref14_nodes.j1 k x0 x4 true ((rd_T37 x0 x4).f0) ((rd_T37 x0 x4).f1.f0) ((rd_T37 x0 x4).f1.f1) ((rd_T37 x0 x4).f2)) else (if ((rd_T37 x0 x4).f1.f1) < (-900000000) then (mapmakerref14_nodes.j1 k x0 x4 true ((rd_T37 x0 x4).f0) ((rd_T37 x0 x4).f1.f0) ((rd_T37 x0 x4).f1.f1) ((rd_T37 x0 x4).f2)) else (mapmakerref14_nodes.j1 k x0 x4 (decide (((rd_T37 x0 x4).f1.f1) > 900000000)) ((rd_T37 x0 x4).f0) ((rd_T37 x0 x4).f1.f0) ((rd_T37 x0 x4).f1.f1) ((rd_T37 x0 x4).f2))))) else (some t169))) else (none)) else (some 0)
def mapmakerref14_nodes.j1 : Nat → List (S37) → Int → Bool → Int → Int → Int → List (S129) → Option (Int)
 | 0, _, _, _, _, _, _, _ => none
 | k + 1, x0, x4, x46, x169000, x169001, x169002, x169003 => if x46 = true then (some 11) else ((mapmakerref06_Check.f k x169003).bind fun t170 => (if t170 = 0 then (mapmakerref14_nodes.l0 k x0 x169000 (wrap64 (x4 + 1))) else (some t170)))
end
def mapmakerref14_nodes.f (k : Nat) (l0 : List (S37)) : Option (Int) := mapmakerref14_nodes.l0 k l0 0 0
theorem mapmakerref14_nodes.mono_l : ∀ k, (∀ y0 y1 y2, LeO (mapmakerref14_nodes.l0 k y0 y1 y2) (mapmakerref14_nodes.l0 (k + 1) y0 y1 y2)) ∧ (∀ y0 y1 y2 y3 y4 y5 y6, LeO (mapmakerref14_nodes.j1 k y0 y1 y2 y3 y4 y5 y6) (mapmakerref14_nodes.j1 (k + 1) y0 y1 y2 y3 y4 y5 y6))
 | 0 => ⟨fun _ _ _ r h => by simp [mapmakerref14_nodes.l0] at h, fun _ _ _ _ _ _ _ r h => by simp [mapmakerref14_nodes.j1] at h⟩
 | k + 1 => by
  obtain ⟨ih0, ih1⟩ := mapmakerref14_nodes.mono_l k
  refine ⟨?_, ?_⟩
  ·intro y0 y1 y2
   unfold mapmakerref14_nodes.l0
   repeat' first
   | (with_reducible exact ih0 _ _ _)
   | (with_reducible exact ih1 _ _ _ _ _ _ _)
   | (with_reducible exact mapmakerref06_Check.mono _ _)
   | (with_reducible exact mapmakerref14_id.mono _ _ _)
   | (with_reducible exact LeO.refl _)
   | (with_reducible exact LeO.none _)
   | (with_reducible refine LeO.ite ?_ ?_)
   | (with_reducible refine LeO.bind ?_ (fun _ => ?_))
   | exact ih0 _ _ _
   | exact ih1 _ _ _ _ _ _ _
   | exact mapmakerref06_Check.mono _ _
   | exact mapmakerref14_id.mono _ _ _
   | exact LeO.none _
   | refine LeO.ite ?_ ?_
   | refine LeO.bind ?_ (fun _ => ?_)
  ·intro y0 y1 y2 y3 y4 y5 y6
   unfold mapmakerref14_nodes.j1
   repeat' first
   | (with_reducible exact ih0 _ _ _)
   | (with_reducible exact ih1 _ _ _ _ _ _ _)
   | (with_reducible exact mapmakerref06_Check.mono _ _)
   | (with_reducible exact mapmakerref14_id.mono _ _ _)
   | (with_reducible exact LeO.refl _)
   | (with_reducible exact LeO.none _)
   | (with_reducible refine LeO.ite ?_ ?_)
   | (with_reducible refine LeO.bind ?_ (fun _ => ?_))
   | exact ih0 _ _ _
   | exact ih1 _ _ _ _ _ _ _
   | exact mapmakerref06_Check.mono _ _
   | exact mapmakerref14_id.mono _ _ _
   | exact LeO.none _
   | refine LeO.ite ?_ ?_
   | refine LeO.bind ?_ (fun _ => ?_)
theorem mapmakerref14_nodes.mono : ∀ a0 k, LeO (mapmakerref14_nodes.f k a0) (mapmakerref14_nodes.f (k + 1) a0) := by
 intro a0 k; obtain ⟨ih0, ih1⟩ := mapmakerref14_nodes.mono_l k; unfold mapmakerref14_nodes.f
 repeat' first
   | (with_reducible exact ih0 _ _ _)
   | (with_reducible exact ih1 _ _ _ _ _ _ _)
   | (with_reducible exact mapmakerref06_Check.mono _ _)
   | (with_reducible exact mapmakerref14_id.mono _ _ _)
   | (with_reducible exact LeO.refl _)
   | (with_reducible exact LeO.none _)
   | (with_reducible refine LeO.ite ?_ ?_)
   | (with_reducible refine LeO.bind ?_ (fun _ => ?_))
   | exact ih0 _ _ _
   | exact ih1 _ _ _ _ _ _ _
   | exact mapmakerref06_Check.mono _ _
   | exact mapmakerref14_id.mono _ _ _
   | exact LeO.none _
   | refine LeO.ite ?_ ?_
   | refine LeO.bind ?_ (fun _ => ?_)
set_option maxHeartbeats 8000000 in
set_option maxRecDepth 100000 in
theorem mapmakerref14_nodes.calls (k : Nat) (A0 : Option Addr) (c0 : Nat) (l0 : List (S37)) (r : Int) (w : World) (hr0 : Kd.C k37 w A0 l0.length l0) (hc0 : l0.length ≤ c0) (h : mapmakerref14_nodes.f k l0 = some r) :
  Calls Tryz.prog 39 #[.slice A0 l0.length c0] w fun e w' => e = .returned (.int .i64 r) ∧ Below w.heap.size w w' := by
 have hu37 := Tryz.underlying37; have HR0 := aM hr0; have HC0 := aM hc0; clear hr0 hc0; have HB := aM (Below.refl w.heap.size w); have H : (mapmakerref14_nodes.l0 k l0 0 0) = some r := h; clear h; have H' := aM H; clear H; go_enter Tryz.func39, Tryz.ntmps39
 go_wp2
 go_loopg [3, 4] k (fun kq v3 v4 w' => ∃ (x3_1 : Int) (x4_1 : Int), v3 = .int .i64 x3_1 ∧ v4 = .int .i64 x4_1 ∧ Aside0 (mapmakerref14_nodes.l0 kq l0 x3_1 x4_1 = some r) ∧ Aside0 (kq ≤ k) ∧ Aside0 (Below w.heap.size w w'))
 case atStart => exact ⟨(0), (0), (by first | rfl | (simp; done) | (simp [*]; done)), (by first | rfl | (simp; done) | (simp [*]; done)), H', ⟨Nat.le_refl _⟩, ⟨bl⟩⟩
 case round =>
  clear H'; obtain ⟨x3_1, x4_1, rfl, rfl, HA, HK1, HB⟩ := hrel
  cases gk with
  | zero => exact absurd HA.out (by simp [mapmakerref14_nodes.l0])
  | succ k1 =>
   have H := HA.out; clear HA; simp only [mapmakerref14_nodes.l0] at H
   by_cases c2 : x4_1 < (l0.length : Int)
   ·rw [if_pos c2] at H; have c2b0 : decide (x4_1 < (l0.length : Int)) = true := decide_eq_true c2; clear c2
    by_cases c3 : 0 ≤ x4_1
    ·rw [if_pos c3] at H; have c3b0 : decide (0 ≤ x4_1) = true := decide_eq_true c3; clear c3; replace H := Option.bind_eq_some_iff.mp H; obtain ⟨t169, A40, H⟩ := H; (try dsimp only at H); have A4 := aM A40; clear A40
     by_cases c5 : t169 = 0
     ·rw [if_pos c5] at H; have c5b0 : (t169 == 0) = true := beq_iff_eq.mpr c5; have c5b1 : (t169 != 0) = false := bne_eq_false_iff_eq.mpr c5; clear c5; have HC6 := aM H; clear H; have p167 : 0 ≤ (x4_1 : Int) := oT; have q167 : x4_1 < (l0.length : Int) := oT; obtain ⟨ad167, A167_3, c167_3, e167, hx167_0, hx167_1, hx167_2, hx167_3, hl167_3, hi167_3⟩ := at_T37 HR0.out x4_1 p167 q167; cases e167
      replace hx167_0 := hs HB.out hx167_0; replace hx167_1 := hs HB.out hx167_1; replace hx167_2 := hs HB.out hx167_2; replace hx167_3 := hs HB.out hx167_3; have HR167_3 := aM hi167_3; have HC167_3 := aM hl167_3; clear hi167_3 hl167_3; replace p167 := eq_true p167; replace q167 := eq_true q167
      go_upto_region 9 with (first | ((with_reducible refine gate_dst (N := 5) rfl ?_); refine bx (N := 5) (cs := #[.int .i64 0, .int .i64 0, .int .i64 0, .slice none 0 0]) (t := 37) ?_; intro gb168 hg w7 hbox hb; have BK168 := aM (hbox); have GE168 := aM (gw (w := w) hg); replace HB := aM (bS (bl) hb); clear hb hbox hg; have hz8 := bc4 BK168) | ((with_reducible refine gate_callee (f := 40) rfl ?_); refine goesL_ (some 21) rfl rfl Tryz.func40 (by kernel_rfl) rfl #[.int .i64 ((rd_T37 l0 x4_1).f0), .int .i64 x3_1] rfl (by (try simp only [List.map_toArray, List.map_cons, List.map_nil]); first | done | rfl | (simp only [List.length_drop, List.length_take]; rfl)) ?_; (with_reducible refine (mapmakerref14_id.calls k1 ((rd_T37 l0 x4_1).f0) x3_1 t169 _ A4.out).mono ?_); rintro e w' ⟨rfl, ⟨nd, rfl⟩⟩; refine ⟨_, rfl, ?_⟩))
      (try simp only [Act.put, sA, sB, sC])
      go_cut [46] (fun v46 wc => ∃ (kq : Nat) (x46_5 : Bool), v46 = .bool x46_5 ∧ Aside0 (mapmakerref14_nodes.j1 kq l0 x4_1 x46_5 ((rd_T37 l0 x4_1).f0) ((rd_T37 l0 x4_1).f1.f0) ((rd_T37 l0 x4_1).f1.f1) ((rd_T37 l0 x4_1).f2) = some r) ∧ Aside0 (kq ≤ k1) ∧ Aside0 (wc.heap[gb168]? = some (.cells #[.int .i64 ((rd_T37 l0 x4_1).f0), .int .i64 ((rd_T37 l0 x4_1).f1.f0), .int .i64 ((rd_T37 l0 x4_1).f1.f1), (.slice A167_3 ((rd_T37 l0 x4_1).f2).length c167_3)] 37 (0, 0))) ∧ Aside0 (Below w.heap.size w wc))
      case first =>
       have H := HC6.out; clear HC6
       by_cases c9 : ((rd_T37 l0 x4_1).f1.f0) < (-1800000000)
       ·rw [if_pos c9] at H; have c9b0 : decide (((rd_T37 l0 x4_1).f1.f0) < (-1800000000)) = true := decide_eq_true c9; clear c9
        (first | rw [c9b0] | (simp only [i64_w, i32_w]; rw [c9b0]) | skip)
        have H' := aM H; clear H; have hz10 := bc4 BK168
        go_wp2
        go_meet
        case rel => exact ⟨_, (true), (by first | rfl | (simp; done) | (simp [*]; done)), H', ⟨by have := HK1.out; first | omega | exact Nat.le_refl _⟩, ⟨bk BK168⟩, ⟨bl⟩⟩
       ·rw [if_neg c9] at H; have c9b0 : decide (((rd_T37 l0 x4_1).f1.f0) < (-1800000000)) = false := decide_eq_false c9; clear c9
        (first | rw [c9b0] | (simp only [i64_w, i32_w]; rw [c9b0]) | skip)
        by_cases c11 : ((rd_T37 l0 x4_1).f1.f0) > 1800000000
        ·rw [if_pos c11] at H; have c11b0 : decide (1800000000 < ((rd_T37 l0 x4_1).f1.f0)) = true := decide_eq_true c11; clear c11; have H' := aM H; clear H; have hz12 := bc4 BK168
         go_wp2
         go_meet
         case rel => exact ⟨_, (true), (by first | rfl | (simp; done) | (simp [*]; done)), H', ⟨by have := HK1.out; first | omega | exact Nat.le_refl _⟩, ⟨bk BK168⟩, ⟨bl⟩⟩
        ·rw [if_neg c11] at H; have c11b0 : decide (1800000000 < ((rd_T37 l0 x4_1).f1.f0)) = false := decide_eq_false c11; clear c11
         by_cases c13 : ((rd_T37 l0 x4_1).f1.f1) < (-900000000)
         ·rw [if_pos c13] at H; have c13b0 : decide (((rd_T37 l0 x4_1).f1.f1) < (-900000000)) = true := decide_eq_true c13; clear c13; have H' := aM H; clear H; have hz14 := bc4 BK168
          go_wp2
          go_meet
          case rel => exact ⟨_, (true), (by first | rfl | (simp; done) | (simp [*]; done)), H', ⟨by have := HK1.out; first | omega | exact Nat.le_refl _⟩, ⟨bk BK168⟩, ⟨bl⟩⟩
         ·rw [if_neg c13] at H; have c13b0 : decide (((rd_T37 l0 x4_1).f1.f1) < (-900000000)) = false := decide_eq_false c13; clear c13; have H' := aM H; clear H; have hz15 := bc4 BK168
          go_wp2
          go_meet
          case rel => exact ⟨_, (decide (((rd_T37 l0 x4_1).f1.f1) > 900000000)), (by first | rfl | (simp; done) | (simp [*]; done)), H', ⟨by have := HK1.out; first | omega | exact Nat.le_refl _⟩, ⟨bk BK168⟩, ⟨bl⟩⟩
      case rest =>
       clear HC6; (try clear c2); (try clear c2b0); (try clear c3); (try clear c3b0); (try clear c5); (try clear c5b0); (try clear c5b1); (try clear c9); (try clear c9b0); (try clear c11); (try clear c11b0); (try clear c13); (try clear c13b0); (try clear hz10); (try clear hz12); (try clear hz14); (try clear hz15); (try clear hz8); (try clear hx167_0); (try clear hx167_1); (try clear hx167_2); (try clear hx167_3); (try clear p167); (try clear q167); obtain ⟨kq, x46_5, rfl, HA, HJ5, BK168, HB⟩ := hcut
       cases kq with
       | zero => exact absurd HA.out (by simp [mapmakerref14_nodes.j1])
       | succ kj5 =>
        have H := HA.out; clear HA; simp only [mapmakerref14_nodes.j1] at H
        by_cases c16 : x46_5 = true
        ·subst c16; have H1 : (some 11) = some r := by rw [if_pos rfl] at H; exact H
         clear H; have H := H1; clear H1; obtain rfl := Option.some.inj H
         go_wp2
         go_ret; exact ⟨by first | rfl | (simp [errW_none, errW_some] <;> rfl) | (simp [*, errW_none, errW_some] <;> rfl), bl⟩
        ·replace c16 := Bool.eq_false_iff.mpr c16; subst c16; have H1 : ((mapmakerref06_Check.f kj5 ((rd_T37 l0 x4_1).f2)).bind fun t170 => (if t170 = 0 then (mapmakerref14_nodes.l0 kj5 l0 ((rd_T37 l0 x4_1).f0) (wrap64 (x4_1 + 1))) else (some t170))) = some r := by rw [if_neg (show ¬ (false = true) by decide)] at H; exact H
         clear H; have H := H1; clear H1; replace H := Option.bind_eq_some_iff.mp H; obtain ⟨t170, A170, H⟩ := H; (try dsimp only at H); have A17 := aM A170; clear A170
         by_cases c18 : t170 = 0
         ·rw [if_pos c18] at H; have c18b0 : (t170 == 0) = true := beq_iff_eq.mpr c18; have c18b1 : (t170 != 0) = false := bne_eq_false_iff_eq.mpr c18; clear c18; have H' := aM H; clear H; have hz19 := bc4 BK168
          go_wp2_with (first | ((with_reducible refine gate_callee (f := 63) rfl ?_); refine goesL_ (some 49) rfl rfl Tryz.func63 (by kernel_rfl) rfl #[.slice A167_3 ((rd_T37 l0 x4_1).f2).length c167_3] rfl (by (try simp only [List.map_toArray, List.map_cons, List.map_nil]); first | done | rfl | (simp only [List.length_drop, List.length_take]; rfl)) ?_; (with_reducible refine (mapmakerref06_Check.calls kj5 _ _ ((rd_T37 l0 x4_1).f2) t170 _ ?side1 ?side2 A17.out).mono ?_); (case side1 => exact cl HR167_3); (case side2 => exact HC167_3.out); rintro e w20 ⟨rfl, hb⟩; refine ⟨_, rfl, ?_⟩; replace BK168 := aM (kB (kl BK168) hb); replace HB := aM (bS (bl) hb); (try clear hb); have hz21 := bc4 BK168))
          go_roundg kj5
          case measure => have := HK1.out; have := HJ5.out; omega
          case rel => exact ⟨(((rd_T37 l0 x4_1).f0)), (wrap64 (x4_1 + 1)), (by first | rfl | (simp; done) | (simp [*]; done)), (by first | rfl | (simp; done) | (simp [*]; done)), H', ⟨by have := HK1.out; have := HJ5.out; omega⟩, ⟨bl⟩⟩
         ·rw [if_neg c18] at H; have c18b0 : (t170 == 0) = false := beq_eq_false_iff_ne.mpr c18; have c18b1 : (t170 != 0) = true := bne_iff_ne.mpr c18; obtain rfl := Option.some.inj H; have hz22 := bc4 BK168
          go_wp2_with (first | ((with_reducible refine gate_callee (f := 63) rfl ?_); refine goesL_ (some 49) rfl rfl Tryz.func63 (by kernel_rfl) rfl #[.slice A167_3 ((rd_T37 l0 x4_1).f2).length c167_3] rfl (by (try simp only [List.map_toArray, List.map_cons, List.map_nil]); first | done | rfl | (simp only [List.length_drop, List.length_take]; rfl)) ?_; (with_reducible refine (mapmakerref06_Check.calls kj5 _ _ ((rd_T37 l0 x4_1).f2) t170 _ ?side1 ?side2 A17.out).mono ?_); (case side1 => exact cl HR167_3); (case side2 => exact HC167_3.out); rintro e w23 ⟨rfl, hb⟩; refine ⟨_, rfl, ?_⟩; replace HB := aM (bS (bl) hb); clear BK168; (try clear hb)))
          go_ret; exact ⟨by first | rfl | (simp [errW_none, errW_some] <;> rfl) | (simp [*, errW_none, errW_some] <;> rfl), bl⟩
     ·rw [if_neg c5] at H; have c5b0 : (t169 == 0) = false := beq_eq_false_iff_ne.mpr c5; have c5b1 : (t169 != 0) = true := bne_iff_ne.mpr c5; obtain rfl := Option.some.inj H; have p167 : 0 ≤ (x4_1 : Int) := oT; have q167 : x4_1 < (l0.length : Int) := oT; obtain ⟨ad167, A167_3, c167_3, e167, hx167_0, hx167_1, hx167_2, hx167_3, hl167_3, hi167_3⟩ := at_T37 HR0.out x4_1 p167 q167; cases e167
      replace hx167_0 := hs HB.out hx167_0; replace hx167_1 := hs HB.out hx167_1; replace hx167_2 := hs HB.out hx167_2; replace hx167_3 := hs HB.out hx167_3; have HR167_3 := aM hi167_3; have HC167_3 := aM hl167_3; clear hi167_3 hl167_3; replace p167 := eq_true p167; replace q167 := eq_true q167
      go_wp2_with (first | ((with_reducible refine gate_dst (N := 5) rfl ?_); refine bx (N := 5) (cs := #[.int .i64 0, .int .i64 0, .int .i64 0, .slice none 0 0]) (t := 37) ?_; intro gb168 hg w24 hbox hb; have BK168 := aM (hbox); have GE168 := aM (gw (w := w) hg); replace HB := aM (bS (bl) hb); clear hb hbox hg; have hz25 := bc4 BK168) | ((with_reducible refine gate_callee (f := 40) rfl ?_); refine goesL_ (some 21) rfl rfl Tryz.func40 (by kernel_rfl) rfl #[.int .i64 ((rd_T37 l0 x4_1).f0), .int .i64 x3_1] rfl (by (try simp only [List.map_toArray, List.map_cons, List.map_nil]); first | done | rfl | (simp only [List.length_drop, List.length_take]; rfl)) ?_; (with_reducible refine (mapmakerref14_id.calls k1 ((rd_T37 l0 x4_1).f0) x3_1 t169 _ A4.out).mono ?_); rintro e w' ⟨rfl, ⟨nd, rfl⟩⟩; refine ⟨_, rfl, ?_⟩))
      go_ret; exact ⟨by first | rfl | (simp [errW_none, errW_some] <;> rfl) | (simp [*, errW_none, errW_some] <;> rfl), bl⟩
    ·rw [if_neg c3] at H; exact absurd H (by simp)
   ·rw [if_neg c2] at H; have c2b0 : decide (x4_1 < (l0.length : Int)) = false := decide_eq_false c2; clear c2; obtain rfl := Option.some.inj H
    go_wp2
    go_ret; exact ⟨by first | rfl | (simp [errW_none, errW_some] <;> rfl) | (simp [*, errW_none, errW_some] <;> rfl), bl⟩
end Go.Proofs.YtijoaohckgbneaaGreat.PAll
