-- out of a driver of this session's prover over the kit's print: Lean checks it
import Derived.Test.YtijoaohckgbneaaGreatPAllx0
import Derived.Test.YtijoaohckgbneaaGreatPAllx14
import Derived.Test.YtijoaohckgbneaaGreatPAllx16
import Derived.Test.YtijoaohckgbneaaGreatPAllx18
namespace Go.Proofs.YtijoaohckgbneaaGreat.PAll
open Go.Proofs.YtijoaohckgbneaaGreatG Go.Shelf Go.Lib
open Go.RowKit Go.Proofs.YtijoaohckgbneaaGreatW.PrintWords Go.Proofs.YtijoaohckgbneaaGreatW.PrintLast Go.Proofs.YtijoaohckgbneaaGreatW.PrintMore
attribute [local go_sem] max2_int min2_int max_two min_two max_three min_three max_four min_four   -- for this text's walks alone
set_option linter.unusedVariables false
set_option linter.unusedSimpArgs false
mutual
def mapmakerref14_Check.j0 : Nat → Bool → List (S37) → List (S40) → List (S43) → Option (Int)
 | 0, _, _, _, _ => none
 | k + 1, x26, x232000, x232001, x232002 => if x26 = true then (some 5) else ((mapmakerref14_nodes.f k x232000).bind fun t232 => (if t232 = 0 then (mapmakerref14_Check.l0 k 0 0 x232000 x232001 x232002) else (some t232)))
def mapmakerref14_Check.l0 : Nat → Int → Int → List (S37) → List (S40) → List (S43) → Option (Int)
 | 0, _, _, _, _, _ => none
 | k + 1, x4, x5, x232000, x232001, x232002 => if x5 < (x232001.length : Int) then (if 0 ≤ x5 then ((mapmakerref14_id.f k ((rd_T40 x232001 x5).f0) x4).bind fun t234 => (if t234 = 0 then ((mapmakerref14_way.f k x232000 x232001 x232002 ((rd_T40 x232001 x5).f0) ((rd_T40 x232001 x5).f1) ((rd_T40 x232001 x5).f2)).bind fun t236 => (if t236 = 0 then (mapmakerref14_Check.l0 k ((rd_T40 x232001 x5).f0) (wrap64 (x5 + 1)) x232000 x232001 x232002) else (some t236))) else (some t234))) else (none)) else (mapmakerref14_Check.l1 k 0 0 x232000 x232001 x232002)
def mapmakerref14_Check.l1 : Nat → Int → Int → List (S37) → List (S40) → List (S43) → Option (Int)
 | 0, _, _, _, _, _ => none
 | k + 1, x4, x8, x232000, x232001, x232002 => if x8 < (x232002.length : Int) then (if 0 ≤ x8 then ((mapmakerref14_id.f k ((rd_T43 x232002 x8).f0) x4).bind fun t239 => (if t239 = 0 then ((mapmakerref14_rel.f k x232000 x232001 x232002 ((rd_T43 x232002 x8).f0) ((rd_T43 x232002 x8).f1) ((rd_T43 x232002 x8).f2)).bind fun t241 => (if t241 = 0 then (mapmakerref14_Check.l1 k ((rd_T43 x232002 x8).f0) (wrap64 (x8 + 1)) x232000 x232001 x232002) else (some t241))) else (some t239))) else (none)) else (some 0)
end
def mapmakerref14_Check.f (k : Nat) (l0_0 : List (S37)) (l0_1 : List (S40)) (l0_2 : List (S43)) : Option (Int) := if (l0_0.length : Int) > 10000 then (mapmakerref14_Check.j0 k true l0_0 l0_1 l0_2) else (if (l0_1.length : Int) > 10000 then (mapmakerref14_Check.j0 k true l0_0 l0_1 l0_2) else (mapmakerref14_Check.j0 k (decide ((l0_2.length : Int) > 10000)) l0_0 l0_1 l0_2))
theorem mapmakerref14_Check.mono_l : ∀ k, (∀ y0 y1 y2 y3, LeO (mapmakerref14_Check.j0 k y0 y1 y2 y3) (mapmakerref14_Check.j0 (k + 1) y0 y1 y2 y3)) ∧ (∀ y0 y1 y2 y3 y4, LeO (mapmakerref14_Check.l0 k y0 y1 y2 y3 y4) (mapmakerref14_Check.l0 (k + 1) y0 y1 y2 y3 y4)) ∧ (∀ y0 y1 y2 y3 y4, LeO (mapmakerref14_Check.l1 k y0 y1 y2 y3 y4) (mapmakerref14_Check.l1 (k + 1) y0 y1 y2 y3 y4))
 | 0 => ⟨fun _ _ _ _ r h => by simp [mapmakerref14_Check.j0] at h, fun _ _ _ _ _ r h => by simp [mapmakerref14_Check.l0] at h, fun _ _ _ _ _ r h => by simp [mapmakerref14_Check.l1] at h⟩
 | k + 1 => by
  obtain ⟨ih0, ih1, ih2⟩ := mapmakerref14_Check.mono_l k
  refine ⟨?_, ?_, ?_⟩
  ·intro y0 y1 y2 y3
   unfold mapmakerref14_Check.j0
   repeat' first
   | (with_reducible exact ih0 _ _ _ _)
   | (with_reducible exact ih1 _ _ _ _ _)
   | (with_reducible exact ih2 _ _ _ _ _)
   | (with_reducible exact mapmakerref14_id.mono _ _ _)
   | (with_reducible exact mapmakerref14_nodes.mono _ _)
   | (with_reducible exact mapmakerref14_rel.mono _ _ _ _ _ _ _)
   | (with_reducible exact mapmakerref14_way.mono _ _ _ _ _ _ _)
   | (with_reducible exact LeO.refl _)
   | (with_reducible exact LeO.none _)
   | (with_reducible refine LeO.ite ?_ ?_)
   | (with_reducible refine LeO.bind ?_ (fun _ => ?_))
   | exact ih0 _ _ _ _
   | exact ih1 _ _ _ _ _
   | exact ih2 _ _ _ _ _
   | exact mapmakerref14_id.mono _ _ _
   | exact mapmakerref14_nodes.mono _ _
   | exact mapmakerref14_rel.mono _ _ _ _ _ _ _
   | exact mapmakerref14_way.mono _ _ _ _ _ _ _
   | exact LeO.none _
   | refine LeO.ite ?_ ?_
   | refine LeO.bind ?_ (fun _ => ?_)
  ·intro y0 y1 y2 y3 y4
   unfold mapmakerref14_Check.l0
   repeat' first
   | (with_reducible exact ih0 _ _ _ _)
   | (with_reducible exact ih1 _ _ _ _ _)
   | (with_reducible exact ih2 _ _ _ _ _)
   | (with_reducible exact mapmakerref14_id.mono _ _ _)
   | (with_reducible exact mapmakerref14_nodes.mono _ _)
   | (with_reducible exact mapmakerref14_rel.mono _ _ _ _ _ _ _)
   | (with_reducible exact mapmakerref14_way.mono _ _ _ _ _ _ _)
   | (with_reducible exact LeO.refl _)
   | (with_reducible exact LeO.none _)
   | (with_reducible refine LeO.ite ?_ ?_)
   | (with_reducible refine LeO.bind ?_ (fun _ => ?_))
   | exact ih0 _ _ _ _
   | exact ih1 _ _ _ _ _
   | exact ih2 _ _ _ _ _
   | exact mapmakerref14_id.mono _ _ _
   | exact mapmakerref14_nodes.mono _ _
   | exact mapmakerref14_rel.mono _ _ _ _ _ _ _
   | exact mapmakerref14_way.mono _ _ _ _ _ _ _
   | exact LeO.none _
   | refine LeO.ite ?_ ?_
   | refine LeO.bind ?_ (fun _ => ?_)
  ·intro y0 y1 y2 y3 y4
   unfold mapmakerref14_Check.l1
   repeat' first
   | (with_reducible exact ih0 _ _ _ _)
   | (with_reducible exact ih1 _ _ _ _ _)
   | (with_reducible exact ih2 _ _ _ _ _)
   | (with_reducible exact mapmakerref14_id.mono _ _ _)
   | (with_reducible exact mapmakerref14_nodes.mono _ _)
   | (with_reducible exact mapmakerref14_rel.mono _ _ _ _ _ _ _)
   | (with_reducible exact mapmakerref14_way.mono _ _ _ _ _ _ _)
   | (with_reducible exact LeO.refl _)
   | (with_reducible exact LeO.none _)
   | (with_reducible refine LeO.ite ?_ ?_)
   | (with_reducible refine LeO.bind ?_ (fun _ => ?_))
   | exact ih0 _ _ _ _
   | exact ih1 _ _ _ _ _
   | exact ih2 _ _ _ _ _
   | exact mapmakerref14_id.mono _ _ _
   | exact mapmakerref14_nodes.mono _ _
   | exact mapmakerref14_rel.mono _ _ _ _ _ _ _
   | exact mapmakerref14_way.mono _ _ _ _ _ _ _
   | exact LeO.none _
   | refine LeO.ite ?_ ?_
   | refine LeO.bind ?_ (fun _ => ?_)
theorem mapmakerref14_Check.mono : ∀ a0 a1 a2 k, LeO (mapmakerref14_Check.f k a0 a1 a2) (mapmakerref14_Check.f (k + 1) a0 a1 a2) := by
 intro a0 a1 a2 k; obtain ⟨ih0, ih1, ih2⟩ := mapmakerref14_Check.mono_l k; unfold mapmakerref14_Check.f
 repeat' first
   | (with_reducible exact ih0 _ _ _ _)
   | (with_reducible exact ih1 _ _ _ _ _)
   | (with_reducible exact ih2 _ _ _ _ _)
   | (with_reducible exact mapmakerref14_id.mono _ _ _)
   | (with_reducible exact mapmakerref14_nodes.mono _ _)
   | (with_reducible exact mapmakerref14_rel.mono _ _ _ _ _ _ _)
   | (with_reducible exact mapmakerref14_way.mono _ _ _ _ _ _ _)
   | (with_reducible exact LeO.refl _)
   | (with_reducible exact LeO.none _)
   | (with_reducible refine LeO.ite ?_ ?_)
   | (with_reducible refine LeO.bind ?_ (fun _ => ?_))
   | exact ih0 _ _ _ _
   | exact ih1 _ _ _ _ _
   | exact ih2 _ _ _ _ _
   | exact mapmakerref14_id.mono _ _ _
   | exact mapmakerref14_nodes.mono _ _
   | exact mapmakerref14_rel.mono _ _ _ _ _ _ _
   | exact mapmakerref14_way.mono _ _ _ _ _ _ _
   | exact LeO.none _
   | refine LeO.ite ?_ ?_
   | refine LeO.bind ?_ (fun _ => ?_)
def mapmakerref14_Check.T13 : Bool × List (List Nat × List Nat) := (true, [([], []), ([], []), ([1], [1]), ([], []), ([2, 3], [2, 3]), ([4], [4]), ([0, 5], [0, 5]), ([6, 6, 0, 1, 2, 3, 4, 5, 6], [6])])
def mapmakerref14_Check.B13 : List Nat := [0, 0, 2, 0, 14, 30, 63, 127]
theorem mapmakerref14_Check.tab13 : rtab .any (opsOf Tryz.f20 13) = mapmakerref14_Check.T13 := by kernel_rfl
theorem mapmakerref14_Check.bits13 : waitsOk mapmakerref14_Check.T13.2 mapmakerref14_Check.B13 = true := by kernel_rfl
def mapmakerref14_Check.T24 : Bool × List (List Nat × List Nat) := (true, [([], []), ([], []), ([1], [1]), ([], []), ([2, 3], [2, 3]), ([4], [4]), ([0, 5], [0, 5]), ([6, 6, 0, 1, 2, 3, 4, 5, 6], [6])])
def mapmakerref14_Check.B24 : List Nat := [0, 0, 2, 0, 14, 30, 63, 127]
theorem mapmakerref14_Check.tab24 : rtab .any (opsOf Tryz.f20 24) = mapmakerref14_Check.T24 := by kernel_rfl
theorem mapmakerref14_Check.bits24 : waitsOk mapmakerref14_Check.T24.2 mapmakerref14_Check.B24 = true := by kernel_rfl
set_option maxHeartbeats 8000000 in
set_option maxRecDepth 100000 in
theorem mapmakerref14_Check.calls (k : Nat) (A0_0 : Option Addr) (c0_0 : Nat) (l0_0 : List (S37)) (A0_1 : Option Addr) (c0_1 : Nat) (l0_1 : List (S40)) (A0_2 : Option Addr) (c0_2 : Nat) (l0_2 : List (S43)) (r : Int) (w : World) (hr0_0 : Kd.C k37 w A0_0 l0_0.length l0_0) (hc0_0 : l0_0.length ≤ c0_0) (hr0_1 : Kd.C k40 w A0_1 l0_1.length l0_1) (hc0_1 : l0_1.length ≤ c0_1) (hr0_2 : Kd.C k43 w A0_2 l0_2.length l0_2) (hc0_2 : l0_2.length ≤ c0_2) (h : mapmakerref14_Check.f k l0_0 l0_1 l0_2 = some r) :
  Calls Tryz.prog 20 #[.agg #[.slice A0_0 l0_0.length c0_0, .slice A0_1 l0_1.length c0_1, .slice A0_2 l0_2.length c0_2]] w fun e w' => e = .returned (.int .i64 r) ∧ Below w.heap.size w w' := by
 have hu26 := Tryz.underlying26; have hu40 := Tryz.underlying40; have hu43 := Tryz.underlying43; have HR0_0 := aM hr0_0; have HC0_0 := aM hc0_0; clear hr0_0 hc0_0; have HR0_1 := aM hr0_1; have HC0_1 := aM hc0_1; clear hr0_1 hc0_1; have HR0_2 := aM hr0_2; have HC0_2 := aM hc0_2; clear hr0_2 hc0_2; have HB := aM (Below.refl w.heap.size w); have H : (if (l0_0.length : Int) > 10000 then (mapmakerref14_Check.j0 k true l0_0 l0_1 l0_2) else (if (l0_1.length : Int) > 10000 then (mapmakerref14_Check.j0 k true l0_0 l0_1 l0_2) else (mapmakerref14_Check.j0 k (decide ((l0_2.length : Int) > 10000)) l0_0 l0_1 l0_2))) = some r := h; clear h; have HC2 := aM H; clear H; go_enter Tryz.func20, Tryz.ntmps20
 go_upto_region 1 with (first | ((with_reducible refine gate_dst (N := 1) rfl ?_); (try (refine gate_guard (by rfl) ?_; dsimp only)); refine bx (N := 1) (cs := #[.slice A0_0 l0_0.length c0_0, .slice A0_1 l0_1.length c0_1, .slice A0_2 l0_2.length c0_2]) (t := 26) ?_; intro gb231 hg w3 hbox hb; have BK231 := aM (hbox); have GE231 := aM (gw (w := w) hg); replace HB := aM (bS (bl) hb); clear hb hbox hg))
 (try simp only [Act.put, sA, sB, sC])
 go_cut [26] (fun v26 wc => ∃ (kq : Nat) (x26_1 : Bool), v26 = .bool x26_1 ∧ Aside0 (mapmakerref14_Check.j0 kq x26_1 l0_0 l0_1 l0_2 = some r) ∧ Aside0 (kq ≤ k) ∧ Aside0 (wc.heap[gb231]? = some (.cells #[(.slice A0_0 l0_0.length c0_0), (.slice A0_1 l0_1.length c0_1), (.slice A0_2 l0_2.length c0_2)] 26 (0, 0))) ∧ Aside0 (Below w.heap.size w wc))
 case first =>
  have H := HC2.out; clear HC2
  by_cases c4 : (l0_0.length : Int) > 10000
  ·rw [if_pos c4] at H; have c4b0 : decide (10000 < (l0_0.length : Int)) = true := decide_eq_true c4; have c4b1 : decide (10000 < l0_0.length) = true := decide_eq_true (by omega); clear c4
   (first | rw [c4b0] | (simp only [i64_w, i32_w]; rw [c4b0]) | skip)
   have H' := aM H; clear H; have hz5 := bc3 BK231
   go_wp2
   go_meet
   case rel => exact ⟨_, (true), (by first | rfl | (simp; done) | (simp [*]; done)), H', ⟨by first | omega | exact Nat.le_refl _⟩, ⟨kl BK231⟩, ⟨bl⟩⟩
  ·rw [if_neg c4] at H; have c4b0 : decide (10000 < (l0_0.length : Int)) = false := decide_eq_false c4; have c4b1 : decide (10000 < l0_0.length) = false := decide_eq_false (by omega); clear c4
   (first | rw [c4b0] | (simp only [i64_w, i32_w]; rw [c4b0]) | skip)
   by_cases c6 : (l0_1.length : Int) > 10000
   ·rw [if_pos c6] at H; have c6b0 : decide (10000 < (l0_1.length : Int)) = true := decide_eq_true c6; have c6b1 : decide (10000 < l0_1.length) = true := decide_eq_true (by omega); clear c6; have H' := aM H; clear H; have hz7 := bc3 BK231
    go_wp2
    go_meet
    case rel => exact ⟨_, (true), (by first | rfl | (simp; done) | (simp [*]; done)), H', ⟨by first | omega | exact Nat.le_refl _⟩, ⟨kl BK231⟩, ⟨bl⟩⟩
   ·rw [if_neg c6] at H; have c6b0 : decide (10000 < (l0_1.length : Int)) = false := decide_eq_false c6; have c6b1 : decide (10000 < l0_1.length) = false := decide_eq_false (by omega); clear c6; have H' := aM H; clear H; have hz8 := bc3 BK231
    go_wp2
    go_meet
    case rel => exact ⟨_, (decide ((l0_2.length : Int) > 10000)), (by first | rfl | (simp; done) | (simp [*]; done)), H', ⟨by first | omega | exact Nat.le_refl _⟩, ⟨kl BK231⟩, ⟨bl⟩⟩
 case rest =>
  clear HC2; (try clear c4); (try clear c4b0); (try clear c4b1); (try clear c6); (try clear c6b0); (try clear c6b1); (try clear hz5); (try clear hz7); (try clear hz8); obtain ⟨kq, x26_1, rfl, HA, HJ1, BK231, HB⟩ := hcut
  cases kq with
  | zero => exact absurd HA.out (by simp [mapmakerref14_Check.j0])
  | succ kj1 =>
   have H := HA.out; clear HA; simp only [mapmakerref14_Check.j0] at H
   by_cases c9 : x26_1 = true
   ·subst c9; have H1 : (some 5) = some r := by rw [if_pos rfl] at H; exact H
    clear H; have H := H1; clear H1; obtain rfl := Option.some.inj H
    go_wp2
    go_ret; exact ⟨by first | rfl | (simp [errW_none, errW_some] <;> rfl) | (simp [*, errW_none, errW_some] <;> rfl), bl⟩
   ·replace c9 := Bool.eq_false_iff.mpr c9; subst c9; have H1 : ((mapmakerref14_nodes.f kj1 l0_0).bind fun t232 => (if t232 = 0 then (mapmakerref14_Check.l0 kj1 0 0 l0_0 l0_1 l0_2) else (some t232))) = some r := by rw [if_neg (show ¬ (false = true) by decide)] at H; exact H
    clear H; have H := H1; clear H1; replace H := Option.bind_eq_some_iff.mp H; obtain ⟨t232, A100, H⟩ := H; (try dsimp only at H); have A10 := aM A100; clear A100
    by_cases c11 : t232 = 0
    ·rw [if_pos c11] at H; have c11b0 : (t232 == 0) = true := beq_iff_eq.mpr c11; have c11b1 : (t232 != 0) = false := bne_eq_false_iff_eq.mpr c11; clear c11; have H' := aM H; clear H; have hz12 := bc3 BK231
     go_wp2_with (first | ((with_reducible refine gate_callee (f := 39) rfl ?_); refine goesL_ (some 29) rfl rfl Tryz.func39 (by kernel_rfl) rfl #[.slice A0_0 l0_0.length c0_0] rfl (by (try simp only [List.map_toArray, List.map_cons, List.map_nil]); first | done | rfl | (simp only [List.length_drop, List.length_take]; rfl)) ?_; (with_reducible refine (mapmakerref14_nodes.calls kj1 _ _ l0_0 t232 _ ?side1 ?side2 A10.out).mono ?_); (case side1 => exact cl HR0_0); (case side2 => exact HC0_0.out); rintro e w13 ⟨rfl, hb⟩; refine ⟨_, rfl, ?_⟩; replace BK231 := aM (kB (kl BK231) hb); replace HB := aM (bS (bl) hb); (try clear hb)))
     go_loopg [4, 5] kj1 (fun kq v4 v5 w' => ∃ (x4_2 : Int) (x5_2 : Int), v4 = .int .i64 x4_2 ∧ v5 = .int .i64 x5_2 ∧ Aside0 (mapmakerref14_Check.l0 kq x4_2 x5_2 l0_0 l0_1 l0_2 = some r) ∧ Aside0 (kq ≤ kj1) ∧ Aside0 (w'.heap[gb231]? = some (.cells #[(.slice A0_0 l0_0.length c0_0), (.slice A0_1 l0_1.length c0_1), (.slice A0_2 l0_2.length c0_2)] 26 (0, 0))) ∧ Aside0 (Below w.heap.size w w'))
     case atStart => exact ⟨(0), (0), (by first | rfl | (simp; done) | (simp [*]; done)), (by first | rfl | (simp; done) | (simp [*]; done)), H', ⟨Nat.le_refl _⟩, ⟨kl BK231⟩, ⟨bl⟩⟩
     case round =>
      clear H'; (try clear c4); (try clear c4b0); (try clear c4b1); (try clear c6); (try clear c6b0); (try clear c6b1); (try clear c9); (try clear c11); (try clear c11b0); (try clear c11b1); (try clear hz12); (try clear hz5); (try clear hz7); (try clear hz8); obtain ⟨x4_2, x5_2, rfl, rfl, HA, HK2, BK231, HB⟩ := hrel
      cases gk with
      | zero => exact absurd HA.out (by simp [mapmakerref14_Check.l0])
      | succ k2 =>
       have H := HA.out; clear HA; simp only [mapmakerref14_Check.l0] at H
       by_cases c14 : x5_2 < (l0_1.length : Int)
       ·rw [if_pos c14] at H; have c14b0 : decide (x5_2 < (l0_1.length : Int)) = true := decide_eq_true c14; clear c14
        by_cases c15 : 0 ≤ x5_2
        ·rw [if_pos c15] at H; have c15b0 : decide (0 ≤ x5_2) = true := decide_eq_true c15; clear c15; replace H := Option.bind_eq_some_iff.mp H; obtain ⟨t234, A160, H⟩ := H; (try dsimp only at H); have A16 := aM A160; clear A160
         by_cases c17 : t234 = 0
         ·rw [if_pos c17] at H; have c17b0 : (t234 == 0) = true := beq_iff_eq.mpr c17; have c17b1 : (t234 != 0) = false := bne_eq_false_iff_eq.mpr c17; clear c17; replace H := Option.bind_eq_some_iff.mp H; obtain ⟨t236, A180, H⟩ := H; (try dsimp only at H); have A18 := aM A180; clear A180; have HH_ := aM H; clear H; have hz20 := bc3 BK231; have p233 : 0 ≤ (x5_2 : Int) := oT; have q233 : x5_2 < (l0_1.length : Int) := oT; obtain ⟨ad233, A233_1, c233_1, A233_2, c233_2, e233, hx233_0, hx233_1, hx233_2, hl233_1, hi233_1, hl233_2, hi233_2⟩ := at_T40 HR0_1.out x5_2 p233 q233; cases e233
          replace hx233_0 := hs HB.out hx233_0; replace hx233_1 := hs HB.out hx233_1; replace hx233_2 := hs HB.out hx233_2; have HR233_1 := aM hi233_1; have HC233_1 := aM hl233_1; clear hi233_1 hl233_1; have HR233_2 := aM hi233_2; have HC233_2 := aM hl233_2; clear hi233_2 hl233_2; replace p233 := eq_true p233; replace q233 := eq_true q233
          try go_wp2_with (first | ((with_reducible refine gate_callee (f := 40) rfl ?_); refine goesL_ (some 47) rfl rfl Tryz.func40 (by kernel_rfl) rfl #[.int .i64 ((rd_T40 l0_1 x5_2).f0), .int .i64 x4_2] rfl (by (try simp only [List.map_toArray, List.map_cons, List.map_nil]); first | done | rfl | (simp only [List.length_drop, List.length_take]; rfl)) ?_; (with_reducible refine (mapmakerref14_id.calls k2 ((rd_T40 l0_1 x5_2).f0) x4_2 t234 _ A16.out).mono ?_); rintro e w' ⟨rfl, ⟨nd, rfl⟩⟩; refine ⟨_, rfl, ?_⟩))
          (try (rw [drewN_self wr]; generalize hq_ : World.drewN wr _ = wr; have n0_ : Aside0 (wr.heap[gb231]? = some (.cells #[.slice A0_0 l0_0.length c0_0, .slice (some ad233) l0_1.length c0_1, .slice A0_2 l0_2.length c0_2] 26 (0, 0))) := ⟨by rw [← hq_]; exact (kl BK231)⟩; have n1_ : Aside0 (Below w.heap.size w wr) := ⟨by rw [← hq_]; exact (bl)⟩; clear BK231 HB hq_; have BK231 := n0_; have HB := n1_; clear n0_ n1_))
          replace BK231 := aM (kD BK231.out); replace HB := aM (bD HB.out); have p235 : 0 ≤ (x5_2 : Int) := oT; have q235 : x5_2 < (l0_1.length : Int) := oT; obtain ⟨ad235, A235_1, c235_1, A235_2, c235_2, e235, hx235_0, hx235_1, hx235_2, hl235_1, hi235_1, hl235_2, hi235_2⟩ := at_T40 HR0_1.out x5_2 p235 q235; have hw235_2 := hx235_2; have hw235_1 := hx235_1; have hw235_0 := hx235_0; obtain rfl : ad233 = ad235 := (by injection e235); replace hx235_0 := hs HB.out hx235_0; replace hx235_1 := hs HB.out hx235_1; replace hx235_2 := hs HB.out hx235_2; have HR235_1 := aM hi235_1; have HC235_1 := aM hl235_1; clear hi235_1 hl235_1; have HR235_2 := aM hi235_2; have HC235_2 := aM hl235_2; clear hi235_2 hl235_2; replace p235 := eq_true p235; replace q235 := eq_true q235; refine start_ (n := 8) (S := fun w' => w'.cell? ⟨gb231, 0, none⟩ = some (.slice A0_0 l0_0.length c0_0) ∧ w'.cell? ⟨gb231, 1, none⟩ = some (.slice (some ad233) l0_1.length c0_1) ∧ w'.cell? ⟨gb231, 2, none⟩ = some (.slice A0_2 l0_2.length c0_2) ∧ w'.cell? (ad233.add ((x5_2).toNat * 3)) = some (.int .i64 ((rd_T40 l0_1 x5_2).f0)) ∧ w'.cell? ⟨(ad233.add ((x5_2).toNat * 3)).block, (ad233.add ((x5_2).toNat * 3)).off + 1, none⟩ = some (.slice A235_1 ((rd_T40 l0_1 x5_2).f1).length c235_1) ∧ w'.cell? ⟨(ad233.add ((x5_2).toNat * 3)).block, (ad233.add ((x5_2).toNat * 3)).off + 2, none⟩ = some (.slice A235_2 ((rd_T40 l0_1 x5_2).f2).length c235_2)) (ds := []) #[false, false, false, false, false, false, false, false] (by kernel_rfl) rfl rfl ⟨(kC BK231.out 0).trans rfl, (kC BK231.out 1).trans rfl, (kC BK231.out 2).trans rfl, ((HB.out.cell (World.block_lt_of_cell? w _ hw235_0)).trans hw235_0), ((HB.out.cell (World.block_lt_of_cell? w _ hw235_1)).trans hw235_1), ((HB.out.cell (World.block_lt_of_cell? w _ hw235_2)).trans hw235_2)⟩ (fun hHeld => ?_); refine with_tabW mapmakerref14_Check.tab13 mapmakerref14_Check.bits13 (fun HT_ HW_ => ?_); generalize wr.drew = w21 at BK231 HB HR235_1 HR235_2 hx235_0 hx235_1 hx235_2 hHeld ⊢; refine pu 1 52 (ba 8 2) ?_; refine pu 3 54 (ba 8 10) ?_; refine tk 0 51 (ba 8 11) ?_; refine tk 2 53 (ba 8 15) ?_; refine pu 4 55 (ba 8 31) ?_; refine tk 5 56 (ba 8 63) ?_; refine one_ (i := 6) (N := some 57) (ba 8 127) rfl rfl (one_of HT_.out (by kernel_rfl)) (by decide) (fun K hK => ?_); refine goes_ Tryz.func41 (by kernel_rfl) rfl #[.agg #[.slice A0_0 l0_0.length c0_0, .slice (some ad233) l0_1.length c0_1, .slice A0_2 l0_2.length c0_2], .agg #[.int .i64 ((rd_T40 l0_1 x5_2).f0), .slice A235_1 ((rd_T40 l0_1 x5_2).f1).length c235_1, .slice A235_2 ((rd_T40 l0_1 x5_2).f2).length c235_2]] (by rfl) rfl rfl (by (try simp only [List.map_toArray, List.map_cons, List.map_nil]); first | done | rfl | (simp only [List.length_drop, List.length_take]; rfl)) ?_
          with_reducible refine (mapmakerref14_way.calls k2 _ _ l0_0 _ _ l0_1 _ _ l0_2 ((rd_T40 l0_1 x5_2).f0) _ _ ((rd_T40 l0_1 x5_2).f1) _ _ ((rd_T40 l0_1 x5_2).f2) t236 _ ?side1 ?side2 ?side3 ?side4 ?side5 ?side6 ?side7 ?side8 ?side9 ?side10 A18.out).mono ?_
          (case side1 => exact cl HR0_0)
          (case side2 => exact HC0_0.out)
          (case side3 => exact cl HR0_1)
          (case side4 => exact HC0_1.out)
          (case side5 => exact cl HR0_2)
          (case side6 => exact HC0_2.out)
          (case side7 => exact cl HR235_1)
          (case side8 => exact HC235_1.out)
          (case side9 => exact cl HR235_2)
          (case side10 => exact HC235_2.out)
          rintro e w22 ⟨rfl, hb⟩; refine ⟨_, rfl, ?_⟩; replace BK231 := aM (kB (kl BK231) hb); replace HB := aM (bS (bl) hb)
          (try clear hb)
          (try clear hb2)
          (try clear hk)
          (try clear hi)
          refine hK.out _ _ ⟨(kC BK231.out 0).trans rfl, (kC BK231.out 1).trans rfl, (kC BK231.out 2).trans rfl, ((HB.out.cell (World.block_lt_of_cell? w _ hw235_0)).trans hw235_0), ((HB.out.cell (World.block_lt_of_cell? w _ hw235_1)).trans hw235_1), ((HB.out.cell (World.block_lt_of_cell? w _ hw235_2)).trans hw235_2)⟩ (fun hHeld => ?_); clear hK K; refine norm_ (a' := ?_) ?_ ?_; rotate_left
          ·show Act.put _ (some 57) _ = _
           simp only [Act.put, sA, sB, sC, i64_w, i32_w]; rfl
          refine pu 7 7 (ba 8 255) ?_; refine done_ (done_of HT_.out (by kernel_rfl)) ?_; have H := HH_.out; clear HH_
          by_cases c19 : t236 = 0
          ·rw [if_pos c19] at H; have c19b0 : (t236 == 0) = true := beq_iff_eq.mpr c19; have c19b1 : (t236 != 0) = false := bne_eq_false_iff_eq.mpr c19; clear c19; have H' := aM H; clear H; have hz23 := bc3 BK231; have p237 : 0 ≤ (x5_2 : Int) := oT; have q237 : x5_2 < (l0_1.length : Int) := oT; obtain ⟨ad237, A237_1, c237_1, A237_2, c237_2, e237, hx237_0, hx237_1, hx237_2, hl237_1, hi237_1, hl237_2, hi237_2⟩ := at_T40 HR0_1.out x5_2 p237 q237; obtain rfl : ad233 = ad237 := (by injection e237); replace hx237_0 := hs HB.out hx237_0; replace hx237_1 := hs HB.out hx237_1; replace hx237_2 := hs HB.out hx237_2; have HR237_1 := aM hi237_1; have HC237_1 := aM hl237_1; clear hi237_1 hl237_1; have HR237_2 := aM hi237_2; have HC237_2 := aM hl237_2; clear hi237_2 hl237_2; replace p237 := eq_true p237; replace q237 := eq_true q237
           try go_wp2
           go_roundg k2
           case measure => have := HJ1.out; have := HK2.out; omega
           case rel => exact ⟨((rd_T40 l0_1 x5_2).f0), (wrap64 (x5_2 + 1)), (by first | rfl | (simp; done) | (simp [*]; done)), (by first | rfl | (simp; done) | (simp [*]; done)), H', ⟨by have := HJ1.out; have := HK2.out; omega⟩, ⟨kl BK231⟩, ⟨bl⟩⟩
          ·rw [if_neg c19] at H; have c19b0 : (t236 == 0) = false := beq_eq_false_iff_ne.mpr c19; have c19b1 : (t236 != 0) = true := bne_iff_ne.mpr c19; obtain rfl := Option.some.inj H
           try go_wp2
           go_ret; exact ⟨by first | rfl | (simp [errW_none, errW_some] <;> rfl) | (simp [*, errW_none, errW_some] <;> rfl), bl⟩
         ·rw [if_neg c17] at H; have c17b0 : (t234 == 0) = false := beq_eq_false_iff_ne.mpr c17; have c17b1 : (t234 != 0) = true := bne_iff_ne.mpr c17; obtain rfl := Option.some.inj H; have hz27 := bc3 BK231; have p233 : 0 ≤ (x5_2 : Int) := oT; have q233 : x5_2 < (l0_1.length : Int) := oT; obtain ⟨ad233, A233_1, c233_1, A233_2, c233_2, e233, hx233_0, hx233_1, hx233_2, hl233_1, hi233_1, hl233_2, hi233_2⟩ := at_T40 HR0_1.out x5_2 p233 q233; cases e233
          replace hx233_0 := hs HB.out hx233_0; replace hx233_1 := hs HB.out hx233_1; replace hx233_2 := hs HB.out hx233_2; have HR233_1 := aM hi233_1; have HC233_1 := aM hl233_1; clear hi233_1 hl233_1; have HR233_2 := aM hi233_2; have HC233_2 := aM hl233_2; clear hi233_2 hl233_2; replace p233 := eq_true p233; replace q233 := eq_true q233
          go_wp2_with (first | ((with_reducible refine gate_callee (f := 40) rfl ?_); refine goesL_ (some 47) rfl rfl Tryz.func40 (by kernel_rfl) rfl #[.int .i64 ((rd_T40 l0_1 x5_2).f0), .int .i64 x4_2] rfl (by (try simp only [List.map_toArray, List.map_cons, List.map_nil]); first | done | rfl | (simp only [List.length_drop, List.length_take]; rfl)) ?_; (with_reducible refine (mapmakerref14_id.calls k2 ((rd_T40 l0_1 x5_2).f0) x4_2 t234 _ A16.out).mono ?_); rintro e w' ⟨rfl, ⟨nd, rfl⟩⟩; refine ⟨_, rfl, ?_⟩))
          go_ret; exact ⟨by first | rfl | (simp [errW_none, errW_some] <;> rfl) | (simp [*, errW_none, errW_some] <;> rfl), bl⟩
        ·rw [if_neg c15] at H; exact absurd H (by simp)
       ·rw [if_neg c14] at H; have c14b0 : decide (x5_2 < (l0_1.length : Int)) = false := decide_eq_false c14; clear c14; have H' := aM H; clear H; have hz28 := bc3 BK231
        go_wp2
        go_loopg [4, 8] k2 (fun kq v4 v8 w' => ∃ (x4_3 : Int) (x8_3 : Int), v4 = .int .i64 x4_3 ∧ v8 = .int .i64 x8_3 ∧ Aside0 (mapmakerref14_Check.l1 kq x4_3 x8_3 l0_0 l0_1 l0_2 = some r) ∧ Aside0 (kq ≤ k2) ∧ Aside0 (w'.heap[gb231]? = some (.cells #[(.slice A0_0 l0_0.length c0_0), (.slice A0_1 l0_1.length c0_1), (.slice A0_2 l0_2.length c0_2)] 26 (0, 0))) ∧ Aside0 (Below w.heap.size w w'))
        case atStart => exact ⟨(0), (0), (by first | rfl | (simp; done) | (simp [*]; done)), (by first | rfl | (simp; done) | (simp [*]; done)), H', ⟨Nat.le_refl _⟩, ⟨kl BK231⟩, ⟨bl⟩⟩
        case round =>
         clear H'; (try clear c4); (try clear c4b0); (try clear c4b1); (try clear c6); (try clear c6b0); (try clear c6b1); (try clear c9); (try clear c11); (try clear c11b0); (try clear c11b1); (try clear c14); (try clear c14b0); (try clear c15); (try clear c15b0); (try clear c17); (try clear c17b0); (try clear c17b1); (try clear c19); (try clear c19b0); (try clear c19b1); (try clear hz12); (try clear hz20); (try clear hz23); (try clear hz27); (try clear hz28); (try clear hz5); (try clear hz7); (try clear hz8); (try clear hx233_0); (try clear hx233_1); (try clear hx233_2); (try clear hx235_0); (try clear hx235_1); (try clear hx235_2); (try clear hx237_0); (try clear hx237_1); (try clear hx237_2); (try clear p233); (try clear p235); (try clear p237); (try clear q233); (try clear q235); (try clear q237); obtain ⟨x4_3, x8_3, rfl, rfl, HA, HK3, BK231, HB⟩ := hrel
         cases gk with
         | zero => exact absurd HA.out (by simp [mapmakerref14_Check.l1])
         | succ k3 =>
          have H := HA.out; clear HA; simp only [mapmakerref14_Check.l1] at H
          by_cases c29 : x8_3 < (l0_2.length : Int)
          ·rw [if_pos c29] at H; have c29b0 : decide (x8_3 < (l0_2.length : Int)) = true := decide_eq_true c29; clear c29
           by_cases c30 : 0 ≤ x8_3
           ·rw [if_pos c30] at H; have c30b0 : decide (0 ≤ x8_3) = true := decide_eq_true c30; clear c30; replace H := Option.bind_eq_some_iff.mp H; obtain ⟨t239, A310, H⟩ := H; (try dsimp only at H); have A31 := aM A310; clear A310
            by_cases c32 : t239 = 0
            ·rw [if_pos c32] at H; have c32b0 : (t239 == 0) = true := beq_iff_eq.mpr c32; have c32b1 : (t239 != 0) = false := bne_eq_false_iff_eq.mpr c32; clear c32; replace H := Option.bind_eq_some_iff.mp H; obtain ⟨t241, A330, H⟩ := H; (try dsimp only at H); have A33 := aM A330; clear A330; have HH_ := aM H; clear H; have hz35 := bc3 BK231; have p238 : 0 ≤ (x8_3 : Int) := oT; have q238 : x8_3 < (l0_2.length : Int) := oT; obtain ⟨ad238, A238_1, c238_1, A238_2, c238_2, e238, hx238_0, hx238_1, hx238_2, hl238_1, hi238_1, hl238_2, hi238_2⟩ := at_T43 HR0_2.out x8_3 p238 q238; cases e238
             replace hx238_0 := hs HB.out hx238_0; replace hx238_1 := hs HB.out hx238_1; replace hx238_2 := hs HB.out hx238_2; have HR238_1 := aM hi238_1; have HC238_1 := aM hl238_1; clear hi238_1 hl238_1; have HR238_2 := aM hi238_2; have HC238_2 := aM hl238_2; clear hi238_2 hl238_2; replace p238 := eq_true p238; replace q238 := eq_true q238
             try go_wp2_with (first | ((with_reducible refine gate_callee (f := 40) rfl ?_); refine goesL_ (some 81) rfl rfl Tryz.func40 (by kernel_rfl) rfl #[.int .i64 ((rd_T43 l0_2 x8_3).f0), .int .i64 x4_3] rfl (by (try simp only [List.map_toArray, List.map_cons, List.map_nil]); first | done | rfl | (simp only [List.length_drop, List.length_take]; rfl)) ?_; (with_reducible refine (mapmakerref14_id.calls k3 ((rd_T43 l0_2 x8_3).f0) x4_3 t239 _ A31.out).mono ?_); rintro e w' ⟨rfl, ⟨nd, rfl⟩⟩; refine ⟨_, rfl, ?_⟩))
             (try (rw [drewN_self wr]; generalize hq_ : World.drewN wr _ = wr; have n0_ : Aside0 (wr.heap[gb231]? = some (.cells #[.slice A0_0 l0_0.length c0_0, .slice A0_1 l0_1.length c0_1, .slice (some ad238) l0_2.length c0_2] 26 (0, 0))) := ⟨by rw [← hq_]; exact (kl BK231)⟩; have n1_ : Aside0 (Below w.heap.size w wr) := ⟨by rw [← hq_]; exact (bl)⟩; clear BK231 HB hq_; have BK231 := n0_; have HB := n1_; clear n0_ n1_))
             replace BK231 := aM (kD BK231.out); replace HB := aM (bD HB.out); have p240 : 0 ≤ (x8_3 : Int) := oT; have q240 : x8_3 < (l0_2.length : Int) := oT; obtain ⟨ad240, A240_1, c240_1, A240_2, c240_2, e240, hx240_0, hx240_1, hx240_2, hl240_1, hi240_1, hl240_2, hi240_2⟩ := at_T43 HR0_2.out x8_3 p240 q240; have hw240_2 := hx240_2; have hw240_1 := hx240_1; have hw240_0 := hx240_0; obtain rfl : ad238 = ad240 := (by injection e240); replace hx240_0 := hs HB.out hx240_0; replace hx240_1 := hs HB.out hx240_1; replace hx240_2 := hs HB.out hx240_2; have HR240_1 := aM hi240_1; have HC240_1 := aM hl240_1; clear hi240_1 hl240_1; have HR240_2 := aM hi240_2; have HC240_2 := aM hl240_2; clear hi240_2 hl240_2; replace p240 := eq_true p240; replace q240 := eq_true q240; refine start_ (n := 8) (S := fun w' => w'.cell? ⟨gb231, 0, none⟩ = some (.slice A0_0 l0_0.length c0_0) ∧ w'.cell? ⟨gb231, 1, none⟩ = some (.slice A0_1 l0_1.length c0_1) ∧ w'.cell? ⟨gb231, 2, none⟩ = some (.slice (some ad238) l0_2.length c0_2) ∧ w'.cell? (ad238.add ((x8_3).toNat * 3)) = some (.int .i64 ((rd_T43 l0_2 x8_3).f0)) ∧ w'.cell? ⟨(ad238.add ((x8_3).toNat * 3)).block, (ad238.add ((x8_3).toNat * 3)).off + 1, none⟩ = some (.slice A240_1 ((rd_T43 l0_2 x8_3).f1).length c240_1) ∧ w'.cell? ⟨(ad238.add ((x8_3).toNat * 3)).block, (ad238.add ((x8_3).toNat * 3)).off + 2, none⟩ = some (.slice A240_2 ((rd_T43 l0_2 x8_3).f2).length c240_2)) (ds := []) #[false, false, false, false, false, false, false, false] (by kernel_rfl) rfl rfl ⟨(kC BK231.out 0).trans rfl, (kC BK231.out 1).trans rfl, (kC BK231.out 2).trans rfl, ((HB.out.cell (World.block_lt_of_cell? w _ hw240_0)).trans hw240_0), ((HB.out.cell (World.block_lt_of_cell? w _ hw240_1)).trans hw240_1), ((HB.out.cell (World.block_lt_of_cell? w _ hw240_2)).trans hw240_2)⟩ (fun hHeld => ?_); refine with_tabW mapmakerref14_Check.tab24 mapmakerref14_Check.bits24 (fun HT_ HW_ => ?_); generalize wr.drew = w36 at BK231 HB HR240_1 HR240_2 hx240_0 hx240_1 hx240_2 hHeld ⊢; refine pu 1 86 (ba 8 2) ?_; refine pu 3 88 (ba 8 10) ?_; refine tk 0 85 (ba 8 11) ?_; refine tk 2 87 (ba 8 15) ?_; refine pu 4 89 (ba 8 31) ?_; refine tk 5 90 (ba 8 63) ?_; refine one_ (i := 6) (N := some 91) (ba 8 127) rfl rfl (one_of HT_.out (by kernel_rfl)) (by decide) (fun K hK => ?_); refine goes_ Tryz.func42 (by kernel_rfl) rfl #[.agg #[.slice A0_0 l0_0.length c0_0, .slice A0_1 l0_1.length c0_1, .slice (some ad238) l0_2.length c0_2], .agg #[.int .i64 ((rd_T43 l0_2 x8_3).f0), .slice A240_1 ((rd_T43 l0_2 x8_3).f1).length c240_1, .slice A240_2 ((rd_T43 l0_2 x8_3).f2).length c240_2]] (by rfl) rfl rfl (by (try simp only [List.map_toArray, List.map_cons, List.map_nil]); first | done | rfl | (simp only [List.length_drop, List.length_take]; rfl)) ?_
             with_reducible refine (mapmakerref14_rel.calls k3 _ _ l0_0 _ _ l0_1 _ _ l0_2 ((rd_T43 l0_2 x8_3).f0) _ _ ((rd_T43 l0_2 x8_3).f1) _ _ ((rd_T43 l0_2 x8_3).f2) t241 _ ?side1 ?side2 ?side3 ?side4 ?side5 ?side6 ?side7 ?side8 ?side9 ?side10 A33.out).mono ?_
             (case side1 => exact cl HR0_0)
             (case side2 => exact HC0_0.out)
             (case side3 => exact cl HR0_1)
             (case side4 => exact HC0_1.out)
             (case side5 => exact cl HR0_2)
             (case side6 => exact HC0_2.out)
             (case side7 => exact cl HR240_1)
             (case side8 => exact HC240_1.out)
             (case side9 => exact cl HR240_2)
             (case side10 => exact HC240_2.out)
             rintro e w37 ⟨rfl, hb⟩; refine ⟨_, rfl, ?_⟩; replace BK231 := aM (kB (kl BK231) hb); replace HB := aM (bS (bl) hb)
             (try clear hb)
             (try clear hb2)
             (try clear hk)
             (try clear hi)
             refine hK.out _ _ ⟨(kC BK231.out 0).trans rfl, (kC BK231.out 1).trans rfl, (kC BK231.out 2).trans rfl, ((HB.out.cell (World.block_lt_of_cell? w _ hw240_0)).trans hw240_0), ((HB.out.cell (World.block_lt_of_cell? w _ hw240_1)).trans hw240_1), ((HB.out.cell (World.block_lt_of_cell? w _ hw240_2)).trans hw240_2)⟩ (fun hHeld => ?_); clear hK K; refine norm_ (a' := ?_) ?_ ?_; rotate_left
             ·show Act.put _ (some 91) _ = _
              simp only [Act.put, sA, sB, sC, i64_w, i32_w]; rfl
             refine pu 7 10 (ba 8 255) ?_; refine done_ (done_of HT_.out (by kernel_rfl)) ?_; have H := HH_.out; clear HH_
             by_cases c34 : t241 = 0
             ·rw [if_pos c34] at H; have c34b0 : (t241 == 0) = true := beq_iff_eq.mpr c34; have c34b1 : (t241 != 0) = false := bne_eq_false_iff_eq.mpr c34; clear c34; have H' := aM H; clear H; have hz38 := bc3 BK231; have p242 : 0 ≤ (x8_3 : Int) := oT; have q242 : x8_3 < (l0_2.length : Int) := oT; obtain ⟨ad242, A242_1, c242_1, A242_2, c242_2, e242, hx242_0, hx242_1, hx242_2, hl242_1, hi242_1, hl242_2, hi242_2⟩ := at_T43 HR0_2.out x8_3 p242 q242; obtain rfl : ad238 = ad242 := (by injection e242); replace hx242_0 := hs HB.out hx242_0; replace hx242_1 := hs HB.out hx242_1; replace hx242_2 := hs HB.out hx242_2; have HR242_1 := aM hi242_1; have HC242_1 := aM hl242_1; clear hi242_1 hl242_1; have HR242_2 := aM hi242_2; have HC242_2 := aM hl242_2; clear hi242_2 hl242_2; replace p242 := eq_true p242; replace q242 := eq_true q242
              try go_wp2
              go_roundg k3
              case measure => have := HJ1.out; have := HK2.out; have := HK3.out; omega
              case rel => exact ⟨((rd_T43 l0_2 x8_3).f0), (wrap64 (x8_3 + 1)), (by first | rfl | (simp; done) | (simp [*]; done)), (by first | rfl | (simp; done) | (simp [*]; done)), H', ⟨by have := HJ1.out; have := HK2.out; have := HK3.out; omega⟩, ⟨kl BK231⟩, ⟨bl⟩⟩
             ·rw [if_neg c34] at H; have c34b0 : (t241 == 0) = false := beq_eq_false_iff_ne.mpr c34; have c34b1 : (t241 != 0) = true := bne_iff_ne.mpr c34; obtain rfl := Option.some.inj H
              try go_wp2
              go_ret; exact ⟨by first | rfl | (simp [errW_none, errW_some] <;> rfl) | (simp [*, errW_none, errW_some] <;> rfl), bl⟩
            ·rw [if_neg c32] at H; have c32b0 : (t239 == 0) = false := beq_eq_false_iff_ne.mpr c32; have c32b1 : (t239 != 0) = true := bne_iff_ne.mpr c32; obtain rfl := Option.some.inj H; have hz42 := bc3 BK231; have p238 : 0 ≤ (x8_3 : Int) := oT; have q238 : x8_3 < (l0_2.length : Int) := oT; obtain ⟨ad238, A238_1, c238_1, A238_2, c238_2, e238, hx238_0, hx238_1, hx238_2, hl238_1, hi238_1, hl238_2, hi238_2⟩ := at_T43 HR0_2.out x8_3 p238 q238; cases e238
             replace hx238_0 := hs HB.out hx238_0; replace hx238_1 := hs HB.out hx238_1; replace hx238_2 := hs HB.out hx238_2; have HR238_1 := aM hi238_1; have HC238_1 := aM hl238_1; clear hi238_1 hl238_1; have HR238_2 := aM hi238_2; have HC238_2 := aM hl238_2; clear hi238_2 hl238_2; replace p238 := eq_true p238; replace q238 := eq_true q238
             go_wp2_with (first | ((with_reducible refine gate_callee (f := 40) rfl ?_); refine goesL_ (some 81) rfl rfl Tryz.func40 (by kernel_rfl) rfl #[.int .i64 ((rd_T43 l0_2 x8_3).f0), .int .i64 x4_3] rfl (by (try simp only [List.map_toArray, List.map_cons, List.map_nil]); first | done | rfl | (simp only [List.length_drop, List.length_take]; rfl)) ?_; (with_reducible refine (mapmakerref14_id.calls k3 ((rd_T43 l0_2 x8_3).f0) x4_3 t239 _ A31.out).mono ?_); rintro e w' ⟨rfl, ⟨nd, rfl⟩⟩; refine ⟨_, rfl, ?_⟩))
             go_ret; exact ⟨by first | rfl | (simp [errW_none, errW_some] <;> rfl) | (simp [*, errW_none, errW_some] <;> rfl), bl⟩
           ·rw [if_neg c30] at H; exact absurd H (by simp)
          ·rw [if_neg c29] at H; have c29b0 : decide (x8_3 < (l0_2.length : Int)) = false := decide_eq_false c29; clear c29; obtain rfl := Option.some.inj H; have hz43 := bc3 BK231
           go_wp2
           go_ret; exact ⟨by first | rfl | (simp [errW_none, errW_some] <;> rfl) | (simp [*, errW_none, errW_some] <;> rfl), bl⟩
    ·rw [if_neg c11] at H; have c11b0 : (t232 == 0) = false := beq_eq_false_iff_ne.mpr c11; have c11b1 : (t232 != 0) = true := bne_iff_ne.mpr c11; obtain rfl := Option.some.inj H; have hz44 := bc3 BK231
     go_wp2_with (first | ((with_reducible refine gate_callee (f := 39) rfl ?_); refine goesL_ (some 29) rfl rfl Tryz.func39 (by kernel_rfl) rfl #[.slice A0_0 l0_0.length c0_0] rfl (by (try simp only [List.map_toArray, List.map_cons, List.map_nil]); first | done | rfl | (simp only [List.length_drop, List.length_take]; rfl)) ?_; (with_reducible refine (mapmakerref14_nodes.calls kj1 _ _ l0_0 t232 _ ?side1 ?side2 A10.out).mono ?_); (case side1 => exact cl HR0_0); (case side2 => exact HC0_0.out); rintro e w45 ⟨rfl, hb⟩; refine ⟨_, rfl, ?_⟩; replace HB := aM (bS (bl) hb); clear BK231; (try clear hb)))
     go_ret; exact ⟨by first | rfl | (simp [errW_none, errW_some] <;> rfl) | (simp [*, errW_none, errW_some] <;> rfl), bl⟩
end Go.Proofs.YtijoaohckgbneaaGreat.PAll
