-- out of a driver of this session's prover over the kit's print: Lean checks it
import Derived.Test.YtijoaohckgbneaaGreatPAllx0
import Derived.Test.YtijoaohckgbneaaGreatPAllx20
namespace Go.Proofs.YtijoaohckgbneaaGreat.PAll
open Go.Proofs.YtijoaohckgbneaaGreatG Go.Shelf Go.Lib
open Go.RowKit Go.Proofs.YtijoaohckgbneaaGreatW.PrintWords Go.Proofs.YtijoaohckgbneaaGreatW.PrintLast Go.Proofs.YtijoaohckgbneaaGreatW.PrintMore
attribute [local go_sem] max2_int min2_int max_two min_two max_three min_three max_four min_four   -- for this text's walks alone
set_option linter.unusedVariables false
set_option linter.unusedSimpArgs false
def api_Way_by_data_Same_2.go (k : Nat) : List S40 → List S40 → Option Bool
 | x :: xs, y :: ys => (data_Same_2.f k x.f0 x.f1 x.f2 y.f0 y.f1 y.f2).bind fun b => if b = true then api_Way_by_data_Same_2.go k xs ys else some false
 | _, _ => some true
def api_Way_by_data_Same_2.f (k : Nat) (l0 : List (S40)) (l1 : List (S40)) : Option (Bool) := if l0.length = l1.length then api_Way_by_data_Same_2.go k l0 l1 else some false
theorem api_Way_by_data_Same_2.mono_go (k : Nat) : ∀ l0 l1, LeO (api_Way_by_data_Same_2.go k l0 l1) (api_Way_by_data_Same_2.go (k + 1) l0 l1)
 | [], _ => LeO.refl _
 | _ :: _, [] => LeO.refl _
 | x :: xs, y :: ys => LeO.bind (data_Same_2.mono _ _ _ _ _ _ k) (fun b => LeO.ite (api_Way_by_data_Same_2.mono_go k xs ys) (LeO.refl _))
theorem api_Way_by_data_Same_2.mono : ∀ a0 a1 k, LeO (api_Way_by_data_Same_2.f k a0 a1) (api_Way_by_data_Same_2.f (k + 1) a0 a1) := fun a0 a1 k => LeO.ite (api_Way_by_data_Same_2.mono_go k a0 a1) (LeO.refl _)
set_option maxHeartbeats 8000000 in
set_option maxRecDepth 100000 in
theorem api_Way_by_data_Same_2.eqf (k g : Nat) (eg : ∀ args w, (callFunc g args).run Tryz.prog w = .ok (.enter g args) w) (hq : ∀ (x y : S40) (b : Bool) (A1 : Option Addr) (c1 : Nat) (A2 : Option Addr) (c2 : Nat) (A1y : Option Addr) (c1y : Nat) (A2y : Option Addr) (c2y : Nat) (W : World) (hx1 : Kd.C (Kd.int .i64) W A1 x.f1.length x.f1) (gx1 : x.f1.length ≤ c1) (hx2 : Kd.C k129 W A2 x.f2.length x.f2) (gx2 : x.f2.length ≤ c2) (hy1 : Kd.C (Kd.int .i64) W A1y y.f1.length y.f1) (gy1 : y.f1.length ≤ c1y) (hy2 : Kd.C k129 W A2y y.f2.length y.f2) (gy2 : y.f2.length ≤ c2y), data_Same_2.f k x.f0 x.f1 x.f2 y.f0 y.f1 y.f2 = some b → Calls Tryz.prog g #[.agg #[.int .i64 x.f0, .slice A1 x.f1.length c1, .slice A2 x.f2.length c2], .agg #[.int .i64 y.f0, .slice A1y y.f1.length c1y, .slice A2y y.f2.length c2y]] W fun e w' => e = .returned (.bool b) ∧ Below W.heap.size W w') (A0 : Option Addr) (c0 : Nat) (l0 : List (S40)) (A1 : Option Addr) (c1 : Nat) (l1 : List (S40)) (r : Bool) (w : World) (hr0 : Kd.C k40 w A0 l0.length l0) (hc0 : l0.length ≤ c0) (hr1 : Kd.C k40 w A1 l1.length l1) (hc1 : l1.length ≤ c1) (h : api_Way_by_data_Same_2.f k l0 l1 = some r) :
  Calls Tryz.prog 86 #[.slice A0 l0.length c0, .slice A1 l1.length c1, .func (.func g) #[] #[]] w fun e w' => e = .returned (.bool r) ∧ Below w.heap.size w w' := by
 have hu40 := Tryz.underlying40; have hb0 : l0.length ≤ 9223372036854775807 := hr0.2.1; have hb1 : l1.length ≤ 9223372036854775807 := hr1.2.1; have HQ := aM hq; clear hq; have HR0 := aM hr0; have HR1 := aM hr1; clear hr0 hr1; unfold api_Way_by_data_Same_2.f at h
 by_cases hl : l0.length = l1.length
 ·rw [if_pos hl] at h; have HH := aM h; have HL := aM hl; have e0 : ((l0.length : Int) == (l1.length : Int)) = true := beq_iff_eq.mpr (by omega); have e1 : ((l0.length : Int) != (l1.length : Int)) = false := bne_eq_false_iff_eq.mpr (by omega); clear h hl; go_enter Tryz.func86, Tryz.ntmps86
  go_wp2
  clear e0 e1
  go_loopg [17] l0.length (fun gg v17 wr => ∃ i : Nat, i ≤ l0.length ∧ l0.length - i ≤ gg ∧ v17 = .int .i64 i ∧ Aside0 (api_Way_by_data_Same_2.go k (l0.drop i) (l1.drop i) = some r) ∧ Aside0 (Below w.heap.size w wr))
  case atStart => exact ⟨0, by omega, by omega, rfl, ⟨by rw [List.drop_zero, List.drop_zero]; exact HH.out⟩, ⟨Below.refl _ _⟩⟩
  case round =>
   obtain ⟨i, hi, hg, rfl, GO, BW⟩ := hrel
   by_cases hlt : i < l0.length
   ·have hltI : (i : Int) < (l0.length : Int) := by omega
    have hlt1 : i < l1.length := by have := HL.out; omega
    have hltJ : (i : Int) < (l1.length : Int) := by omega
    obtain ⟨ad, A1, c1, A2, c2, e0, hx0, hx1, hx2, hl1, hi1, hl2, hi2⟩ := at_T40 (Kd.C_below HR0.out BW.out) (i : Int) (by omega) hltI; cases e0
    obtain ⟨bd, A1y, c1y, A2y, c2y, e0, hy0, hy1, hy2, hm1, hj1, hm2, hj2⟩ := at_T40 (Kd.C_below HR1.out BW.out) (i : Int) (by omega) hltJ; cases e0
    have hx : rd_T40 l0 (i : Int) = l0[i] := by unfold rd_T40; rw [Int.toNat_natCast, List.getD_eq_getElem?_getD, List.getElem?_eq_getElem hlt]; rfl
    have hy : rd_T40 l1 (i : Int) = l1[i] := by unfold rd_T40; rw [Int.toNat_natCast, List.getD_eq_getElem?_getD, List.getElem?_eq_getElem hlt1]; rfl
    rw [hx] at hx0 hx1 hx2 hl1 hi1 hl2 hi2; rw [hy] at hy0 hy1 hy2 hm1 hj1 hm2 hj2; rw [Int.toNat_natCast] at hx0 hx1 hx2 hy0 hy1 hy2; have G := GO.out; rw [List.drop_eq_getElem_cons hlt, List.drop_eq_getElem_cons hlt1] at G; simp only [api_Way_by_data_Same_2.go] at G; clear hx hy GO; generalize l0[i] = x at hx0 hx1 hx2 hl1 hi1 hl2 hi2 G; generalize l1[i] = y at hy0 hy1 hy2 hm1 hj1 hm2 hj2 G; obtain ⟨b, hb, hG⟩ := Option.bind_eq_some_iff.mp G; have hcall := HQ.out x y b A1 c1 A2 c2 A1y c1y A2y c2y ((wr.alloc (.cells #[.int .i64 x.f0, .slice A1 x.f1.length c1, .slice A2 x.f2.length c2] 40)).alloc (.cells #[.int .i64 y.f0, .slice A1y y.f1.length c1y, .slice A2y y.f2.length c2y] 40)) (cA (cA hi1 _) _) hl1 (cA (cA hi2 _) _) hl2 (cA (cA hj1 _) _) hm1 (cA (cA hj2 _) _) hm2 hb; have HCALL := aM hcall; have hbw : Below wr.heap.size wr (wr.alloc (.cells #[.int .i64 x.f0, .slice A1 x.f1.length c1, .slice A2 x.f2.length c2] 40)) := (Below.refl _ _).alloc (Nat.le_refl _) _; replace hy0 := (hbw.cell (World.block_lt_of_cell? wr _ hy0)).trans hy0; replace hy1 := (hbw.cell (World.block_lt_of_cell? wr _ hy1)).trans hy1; replace hy2 := (hbw.cell (World.block_lt_of_cell? wr _ hy2)).trans hy2; clear hbw hcall hi1 hj1 hl1 hm1 hi2 hj2 hl2 hm2 hb G
    cases b with
    | true =>
     have HG := aM ((if_pos rfl).symm.trans hG); clear hG
     go_wp2_with (first | (go_at_fn g; refine HCALL.out.mono ?_; rintro e w' ⟨rfl, hb'⟩; have HB2 := aM (BW.out.trans (((bA (bA (Below.refl wr.heap.size wr) _) _).trans (hb'.mono (bA (bA (Below.refl wr.heap.size wr) _) _).size)).mono BW.out.size)); clear hb') | go_in)
     go_roundg (l0.length - (i + 1))
     case measure => omega
     case rel => exact ⟨i + 1, by omega, by omega, by go_num, HG, HB2⟩
    | false =>
     have HG := aM (Option.some.inj ((if_neg (by simp)).symm.trans hG)); clear hG
     go_wp2_with (first | (go_at_fn g; refine HCALL.out.mono ?_; rintro e w' ⟨rfl, hb'⟩; have HB2 := aM (BW.out.trans (((bA (bA (Below.refl wr.heap.size wr) _) _).trans (hb'.mono (bA (bA (Below.refl wr.heap.size wr) _) _).size)).mono BW.out.size)); clear hb') | go_in)
     go_ret; exact ⟨by rw [← HG.out] <;> rfl, HB2.out⟩
   ·have : i = l0.length := by omega
    subst this; have HG := aM (show r = true from by
     have := GO.out; rw [List.drop_length, HL.out, List.drop_length] at this; exact (Option.some.inj this).symm)
    go_wp2
    go_ret; exact ⟨by rw [HG.out] <;> rfl, BW.out⟩
 ·rw [if_neg hl] at h; have HH := aM (Option.some.inj h); have e0 : ((l0.length : Int) == (l1.length : Int)) = false := beq_eq_false_iff_ne.mpr (by omega); have e1 : ((l0.length : Int) != (l1.length : Int)) = true := bne_iff_ne.mpr (by omega); clear h hl; go_enter Tryz.func86, Tryz.ntmps86
  go_wp2
  go_ret; exact ⟨by rw [← HH.out] <;> rfl, Below.refl _ _⟩
theorem api_Way_by_data_Same_2.calls (k : Nat) (A0 : Option Addr) (c0 : Nat) (l0 : List (S40)) (A1 : Option Addr) (c1 : Nat) (l1 : List (S40)) (r : Bool) (w : World) (hr0 : Kd.C k40 w A0 l0.length l0) (hc0 : l0.length ≤ c0) (hr1 : Kd.C k40 w A1 l1.length l1) (hc1 : l1.length ≤ c1) (h : api_Way_by_data_Same_2.f k l0 l1 = some r) :
  Calls Tryz.prog 86 #[.slice A0 l0.length c0, .slice A1 l1.length c1, .func (.func 87) #[] #[]] w fun e w' => e = .returned (.bool r) ∧ Below w.heap.size w w' :=
 api_Way_by_data_Same_2.eqf k 87 (enters_of Tryz.func87 (by kernel_rfl) rfl) (fun x y b A1 c1 A2 c2 A1y c1y A2y c2y W hx1 gx1 hx2 gx2 hy1 gy1 hy2 gy2 hb => data_Same_2.calls k x.f0 _ _ x.f1 _ _ x.f2 y.f0 _ _ y.f1 _ _ y.f2 b W hx1 gx1 hx2 gx2 hy1 gy1 hy2 gy2 hb) A0 c0 l0 A1 c1 l1 r w hr0 hc0 hr1 hc1 h
def api_Rel_by_data_Same_3.go (k : Nat) : List S43 → List S43 → Option Bool
 | x :: xs, y :: ys => (data_Same_3.f k x.f0 x.f1 x.f2 y.f0 y.f1 y.f2).bind fun b => if b = true then api_Rel_by_data_Same_3.go k xs ys else some false
 | _, _ => some true
def api_Rel_by_data_Same_3.f (k : Nat) (l0 : List (S43)) (l1 : List (S43)) : Option (Bool) := if l0.length = l1.length then api_Rel_by_data_Same_3.go k l0 l1 else some false
theorem api_Rel_by_data_Same_3.mono_go (k : Nat) : ∀ l0 l1, LeO (api_Rel_by_data_Same_3.go k l0 l1) (api_Rel_by_data_Same_3.go (k + 1) l0 l1)
 | [], _ => LeO.refl _
 | _ :: _, [] => LeO.refl _
 | x :: xs, y :: ys => LeO.bind (data_Same_3.mono _ _ _ _ _ _ k) (fun b => LeO.ite (api_Rel_by_data_Same_3.mono_go k xs ys) (LeO.refl _))
theorem api_Rel_by_data_Same_3.mono : ∀ a0 a1 k, LeO (api_Rel_by_data_Same_3.f k a0 a1) (api_Rel_by_data_Same_3.f (k + 1) a0 a1) := fun a0 a1 k => LeO.ite (api_Rel_by_data_Same_3.mono_go k a0 a1) (LeO.refl _)
set_option maxHeartbeats 8000000 in
set_option maxRecDepth 100000 in
theorem api_Rel_by_data_Same_3.eqf (k g : Nat) (eg : ∀ args w, (callFunc g args).run Tryz.prog w = .ok (.enter g args) w) (hq : ∀ (x y : S43) (b : Bool) (A1 : Option Addr) (c1 : Nat) (A2 : Option Addr) (c2 : Nat) (A1y : Option Addr) (c1y : Nat) (A2y : Option Addr) (c2y : Nat) (W : World) (hx1 : Kd.C k112 W A1 x.f1.length x.f1) (gx1 : x.f1.length ≤ c1) (hx2 : Kd.C k129 W A2 x.f2.length x.f2) (gx2 : x.f2.length ≤ c2) (hy1 : Kd.C k112 W A1y y.f1.length y.f1) (gy1 : y.f1.length ≤ c1y) (hy2 : Kd.C k129 W A2y y.f2.length y.f2) (gy2 : y.f2.length ≤ c2y), data_Same_3.f k x.f0 x.f1 x.f2 y.f0 y.f1 y.f2 = some b → Calls Tryz.prog g #[.agg #[.int .i64 x.f0, .slice A1 x.f1.length c1, .slice A2 x.f2.length c2], .agg #[.int .i64 y.f0, .slice A1y y.f1.length c1y, .slice A2y y.f2.length c2y]] W fun e w' => e = .returned (.bool b) ∧ Below W.heap.size W w') (A0 : Option Addr) (c0 : Nat) (l0 : List (S43)) (A1 : Option Addr) (c1 : Nat) (l1 : List (S43)) (r : Bool) (w : World) (hr0 : Kd.C k43 w A0 l0.length l0) (hc0 : l0.length ≤ c0) (hr1 : Kd.C k43 w A1 l1.length l1) (hc1 : l1.length ≤ c1) (h : api_Rel_by_data_Same_3.f k l0 l1 = some r) :
  Calls Tryz.prog 89 #[.slice A0 l0.length c0, .slice A1 l1.length c1, .func (.func g) #[] #[]] w fun e w' => e = .returned (.bool r) ∧ Below w.heap.size w w' := by
 have hu43 := Tryz.underlying43; have hb0 : l0.length ≤ 9223372036854775807 := hr0.2.1; have hb1 : l1.length ≤ 9223372036854775807 := hr1.2.1; have HQ := aM hq; clear hq; have HR0 := aM hr0; have HR1 := aM hr1; clear hr0 hr1; unfold api_Rel_by_data_Same_3.f at h
 by_cases hl : l0.length = l1.length
 ·rw [if_pos hl] at h; have HH := aM h; have HL := aM hl; have e0 : ((l0.length : Int) == (l1.length : Int)) = true := beq_iff_eq.mpr (by omega); have e1 : ((l0.length : Int) != (l1.length : Int)) = false := bne_eq_false_iff_eq.mpr (by omega); clear h hl; go_enter Tryz.func89, Tryz.ntmps89
  go_wp2
  clear e0 e1
  go_loopg [17] l0.length (fun gg v17 wr => ∃ i : Nat, i ≤ l0.length ∧ l0.length - i ≤ gg ∧ v17 = .int .i64 i ∧ Aside0 (api_Rel_by_data_Same_3.go k (l0.drop i) (l1.drop i) = some r) ∧ Aside0 (Below w.heap.size w wr))
  case atStart => exact ⟨0, by omega, by omega, rfl, ⟨by rw [List.drop_zero, List.drop_zero]; exact HH.out⟩, ⟨Below.refl _ _⟩⟩
  case round =>
   obtain ⟨i, hi, hg, rfl, GO, BW⟩ := hrel
   by_cases hlt : i < l0.length
   ·have hltI : (i : Int) < (l0.length : Int) := by omega
    have hlt1 : i < l1.length := by have := HL.out; omega
    have hltJ : (i : Int) < (l1.length : Int) := by omega
    obtain ⟨ad, A1, c1, A2, c2, e0, hx0, hx1, hx2, hl1, hi1, hl2, hi2⟩ := at_T43 (Kd.C_below HR0.out BW.out) (i : Int) (by omega) hltI; cases e0
    obtain ⟨bd, A1y, c1y, A2y, c2y, e0, hy0, hy1, hy2, hm1, hj1, hm2, hj2⟩ := at_T43 (Kd.C_below HR1.out BW.out) (i : Int) (by omega) hltJ; cases e0
    have hx : rd_T43 l0 (i : Int) = l0[i] := by unfold rd_T43; rw [Int.toNat_natCast, List.getD_eq_getElem?_getD, List.getElem?_eq_getElem hlt]; rfl
    have hy : rd_T43 l1 (i : Int) = l1[i] := by unfold rd_T43; rw [Int.toNat_natCast, List.getD_eq_getElem?_getD, List.getElem?_eq_getElem hlt1]; rfl
    rw [hx] at hx0 hx1 hx2 hl1 hi1 hl2 hi2; rw [hy] at hy0 hy1 hy2 hm1 hj1 hm2 hj2; rw [Int.toNat_natCast] at hx0 hx1 hx2 hy0 hy1 hy2; have G := GO.out; rw [List.drop_eq_getElem_cons hlt, List.drop_eq_getElem_cons hlt1] at G; simp only [api_Rel_by_data_Same_3.go] at G; clear hx hy GO; generalize l0[i] = x at hx0 hx1 hx2 hl1 hi1 hl2 hi2 G; generalize l1[i] = y at hy0 hy1 hy2 hm1 hj1 hm2 hj2 G; obtain ⟨b, hb, hG⟩ := Option.bind_eq_some_iff.mp G; have hcall := HQ.out x y b A1 c1 A2 c2 A1y c1y A2y c2y ((wr.alloc (.cells #[.int .i64 x.f0, .slice A1 x.f1.length c1, .slice A2 x.f2.length c2] 43)).alloc (.cells #[.int .i64 y.f0, .slice A1y y.f1.length c1y, .slice A2y y.f2.length c2y] 43)) (cA (cA hi1 _) _) hl1 (cA (cA hi2 _) _) hl2 (cA (cA hj1 _) _) hm1 (cA (cA hj2 _) _) hm2 hb; have HCALL := aM hcall; have hbw : Below wr.heap.size wr (wr.alloc (.cells #[.int .i64 x.f0, .slice A1 x.f1.length c1, .slice A2 x.f2.length c2] 43)) := (Below.refl _ _).alloc (Nat.le_refl _) _; replace hy0 := (hbw.cell (World.block_lt_of_cell? wr _ hy0)).trans hy0; replace hy1 := (hbw.cell (World.block_lt_of_cell? wr _ hy1)).trans hy1; replace hy2 := (hbw.cell (World.block_lt_of_cell? wr _ hy2)).trans hy2; clear hbw hcall hi1 hj1 hl1 hm1 hi2 hj2 hl2 hm2 hb G
    cases b with
    | true =>
     have HG := aM ((if_pos rfl).symm.trans hG); clear hG
     go_wp2_with (first | (go_at_fn g; refine HCALL.out.mono ?_; rintro e w' ⟨rfl, hb'⟩; have HB2 := aM (BW.out.trans (((bA (bA (Below.refl wr.heap.size wr) _) _).trans (hb'.mono (bA (bA (Below.refl wr.heap.size wr) _) _).size)).mono BW.out.size)); clear hb') | go_in)
     go_roundg (l0.length - (i + 1))
     case measure => omega
     case rel => exact ⟨i + 1, by omega, by omega, by go_num, HG, HB2⟩
    | false =>
     have HG := aM (Option.some.inj ((if_neg (by simp)).symm.trans hG)); clear hG
     go_wp2_with (first | (go_at_fn g; refine HCALL.out.mono ?_; rintro e w' ⟨rfl, hb'⟩; have HB2 := aM (BW.out.trans (((bA (bA (Below.refl wr.heap.size wr) _) _).trans (hb'.mono (bA (bA (Below.refl wr.heap.size wr) _) _).size)).mono BW.out.size)); clear hb') | go_in)
     go_ret; exact ⟨by rw [← HG.out] <;> rfl, HB2.out⟩
   ·have : i = l0.length := by omega
    subst this; have HG := aM (show r = true from by
     have := GO.out; rw [List.drop_length, HL.out, List.drop_length] at this; exact (Option.some.inj this).symm)
    go_wp2
    go_ret; exact ⟨by rw [HG.out] <;> rfl, BW.out⟩
 ·rw [if_neg hl] at h; have HH := aM (Option.some.inj h); have e0 : ((l0.length : Int) == (l1.length : Int)) = false := beq_eq_false_iff_ne.mpr (by omega); have e1 : ((l0.length : Int) != (l1.length : Int)) = true := bne_iff_ne.mpr (by omega); clear h hl; go_enter Tryz.func89, Tryz.ntmps89
  go_wp2
  go_ret; exact ⟨by rw [← HH.out] <;> rfl, Below.refl _ _⟩
theorem api_Rel_by_data_Same_3.calls (k : Nat) (A0 : Option Addr) (c0 : Nat) (l0 : List (S43)) (A1 : Option Addr) (c1 : Nat) (l1 : List (S43)) (r : Bool) (w : World) (hr0 : Kd.C k43 w A0 l0.length l0) (hc0 : l0.length ≤ c0) (hr1 : Kd.C k43 w A1 l1.length l1) (hc1 : l1.length ≤ c1) (h : api_Rel_by_data_Same_3.f k l0 l1 = some r) :
  Calls Tryz.prog 89 #[.slice A0 l0.length c0, .slice A1 l1.length c1, .func (.func 90) #[] #[]] w fun e w' => e = .returned (.bool r) ∧ Below w.heap.size w w' :=
 api_Rel_by_data_Same_3.eqf k 90 (enters_of Tryz.func90 (by kernel_rfl) rfl) (fun x y b A1 c1 A2 c2 A1y c1y A2y c2y W hx1 gx1 hx2 gx2 hy1 gy1 hy2 gy2 hb => data_Same_3.calls k x.f0 _ _ x.f1 _ _ x.f2 y.f0 _ _ y.f1 _ _ y.f2 b W hx1 gx1 hx2 gx2 hy1 gy1 hy2 gy2 hb) A0 c0 l0 A1 c1 l1 r w hr0 hc0 hr1 hc1 h
def data_Same.f (k : Nat) (l0_0 : List (S37)) (l0_1 : List (S40)) (l0_2 : List (S43)) (l1_0 : List (S37)) (l1_1 : List (S40)) (l1_2 : List (S43)) : Option (Bool) := (api_Node_by_data_Same_1.f k l0_0 l1_0).bind fun t262 => (if t262 = true then ((api_Way_by_data_Same_2.f k l0_1 l1_1).bind fun t263 => (if t263 = true then ((api_Rel_by_data_Same_3.f k l0_2 l1_2).bind fun t264 => (some t264)) else (some false))) else (some false))
theorem data_Same.mono : ∀ a0 a1 a2 a3 a4 a5 k, LeO (data_Same.f k a0 a1 a2 a3 a4 a5) (data_Same.f (k + 1) a0 a1 a2 a3 a4 a5) := by
 intro a0 a1 a2 a3 a4 a5 k; unfold data_Same.f
 repeat' first
   | (with_reducible exact api_Node_by_data_Same_1.mono _ _ _)
   | (with_reducible exact api_Rel_by_data_Same_3.mono _ _ _)
   | (with_reducible exact api_Way_by_data_Same_2.mono _ _ _)
   | (with_reducible exact LeO.refl _)
   | (with_reducible exact LeO.none _)
   | (with_reducible refine LeO.ite ?_ ?_)
   | (with_reducible refine LeO.bind ?_ (fun _ => ?_))
   | exact api_Node_by_data_Same_1.mono _ _ _
   | exact api_Rel_by_data_Same_3.mono _ _ _
   | exact api_Way_by_data_Same_2.mono _ _ _
   | exact LeO.none _
   | refine LeO.ite ?_ ?_
   | refine LeO.bind ?_ (fun _ => ?_)
set_option maxHeartbeats 8000000 in
set_option maxRecDepth 100000 in
theorem data_Same.calls (k : Nat) (A0_0 : Option Addr) (c0_0 : Nat) (l0_0 : List (S37)) (A0_1 : Option Addr) (c0_1 : Nat) (l0_1 : List (S40)) (A0_2 : Option Addr) (c0_2 : Nat) (l0_2 : List (S43)) (A1_0 : Option Addr) (c1_0 : Nat) (l1_0 : List (S37)) (A1_1 : Option Addr) (c1_1 : Nat) (l1_1 : List (S40)) (A1_2 : Option Addr) (c1_2 : Nat) (l1_2 : List (S43)) (r : Bool) (w : World) (hr0_0 : Kd.C k37 w A0_0 l0_0.length l0_0) (hc0_0 : l0_0.length ≤ c0_0) (hr0_1 : Kd.C k40 w A0_1 l0_1.length l0_1) (hc0_1 : l0_1.length ≤ c0_1) (hr0_2 : Kd.C k43 w A0_2 l0_2.length l0_2) (hc0_2 : l0_2.length ≤ c0_2) (hr1_0 : Kd.C k37 w A1_0 l1_0.length l1_0) (hc1_0 : l1_0.length ≤ c1_0) (hr1_1 : Kd.C k40 w A1_1 l1_1.length l1_1) (hc1_1 : l1_1.length ≤ c1_1) (hr1_2 : Kd.C k43 w A1_2 l1_2.length l1_2) (hc1_2 : l1_2.length ≤ c1_2) (h : data_Same.f k l0_0 l0_1 l0_2 l1_0 l1_1 l1_2 = some r) :
  Calls Tryz.prog 64 #[.agg #[.slice A0_0 l0_0.length c0_0, .slice A0_1 l0_1.length c0_1, .slice A0_2 l0_2.length c0_2], .agg #[.slice A1_0 l1_0.length c1_0, .slice A1_1 l1_1.length c1_1, .slice A1_2 l1_2.length c1_2]] w fun e w' => e = .returned (.bool r) ∧ Below w.heap.size w w' := by
 have hu26 := Tryz.underlying26; have HR0_0 := aM hr0_0; have HC0_0 := aM hc0_0; clear hr0_0 hc0_0; have HR0_1 := aM hr0_1; have HC0_1 := aM hc0_1; clear hr0_1 hc0_1; have HR0_2 := aM hr0_2; have HC0_2 := aM hc0_2; clear hr0_2 hc0_2; have HR1_0 := aM hr1_0; have HC1_0 := aM hc1_0; clear hr1_0 hc1_0; have HR1_1 := aM hr1_1; have HC1_1 := aM hc1_1; clear hr1_1 hc1_1; have HR1_2 := aM hr1_2; have HC1_2 := aM hc1_2; clear hr1_2 hc1_2; have HB := aM (Below.refl w.heap.size w); have H : ((api_Node_by_data_Same_1.f k l0_0 l1_0).bind fun t262 => (if t262 = true then ((api_Way_by_data_Same_2.f k l0_1 l1_1).bind fun t263 => (if t263 = true then ((api_Rel_by_data_Same_3.f k l0_2 l1_2).bind fun t264 => (some t264)) else (some false))) else (some false))) = some r := h; clear h; replace H := Option.bind_eq_some_iff.mp H; obtain ⟨t262, A30, H⟩ := H; (try dsimp only at H); have A3 := aM A30; clear A30
 by_cases c4 : t262 = true
 ·subst c4; have H1 : ((api_Way_by_data_Same_2.f k l0_1 l1_1).bind fun t263 => (if t263 = true then ((api_Rel_by_data_Same_3.f k l0_2 l1_2).bind fun t264 => (some t264)) else (some false))) = some r := by rw [if_pos rfl] at H; exact H
  clear H; have H := H1; clear H1; replace H := Option.bind_eq_some_iff.mp H; obtain ⟨t263, A50, H⟩ := H; (try dsimp only at H); have A5 := aM A50; clear A50
  by_cases c6 : t263 = true
  ·subst c6; have H1 : ((api_Rel_by_data_Same_3.f k l0_2 l1_2).bind fun t264 => (some t264)) = some r := by rw [if_pos rfl] at H; exact H
   clear H; have H := H1; clear H1; replace H := Option.bind_eq_some_iff.mp H; obtain ⟨t264, A70, H⟩ := H; (try dsimp only at H); have A7 := aM A70; clear A70; obtain rfl := Option.some.inj H; go_enter Tryz.func64, Tryz.ntmps64
   go_wp2_with (first | ((with_reducible refine gate_dst (N := 2) rfl ?_); refine bx (N := 2) (cs := #[.slice A0_0 l0_0.length c0_0, .slice A0_1 l0_1.length c0_1, .slice A0_2 l0_2.length c0_2]) (t := 26) ?_; intro gb260 hg w8 hbox hb; have BK260 := aM (hbox); have GE260 := aM (gw (w := w) hg); replace HB := aM (bS (bl) hb); clear hb hbox hg) | ((with_reducible refine gate_dst (N := 3) rfl ?_); refine bx (N := 3) (cs := #[.slice A1_0 l1_0.length c1_0, .slice A1_1 l1_1.length c1_1, .slice A1_2 l1_2.length c1_2]) (t := 26) ?_; intro gb261 hg w9 hbox hb; have BK261 := aM (hbox); have GE261 := aM (gw (w := w) hg); obtain ⟨NB260_261, NB261_260⟩ := n2 BK260 hg; replace BK260 := aM (kB (kl BK260) hb); replace HB := aM (bS (bl) hb); clear hb hbox hg; have hn10 := nn NB260_261; have hz11 := bc3 BK260; have hz12 := bc3 BK261) | ((with_reducible refine gate_callee (f := 83) rfl ?_); refine goesL_ (some 9) rfl rfl Tryz.func83 (by kernel_rfl) rfl #[.slice A0_0 l0_0.length c0_0, .slice A1_0 l1_0.length c1_0, .func (.func 84) #[] #[]] rfl (by (try simp only [List.map_toArray, List.map_cons, List.map_nil]); first | done | rfl | (simp only [List.length_drop, List.length_take]; rfl)) ?_; (with_reducible refine (api_Node_by_data_Same_1.calls k _ _ l0_0 _ _ l1_0 true _ ?side1 ?side2 ?side3 ?side4 A3.out).mono ?_); (case side1 => exact cl HR0_0); (case side2 => exact HC0_0.out); (case side3 => exact cl HR1_0); (case side4 => exact HC1_0.out); rintro e w13 ⟨rfl, hb⟩; refine ⟨_, rfl, ?_⟩; replace BK260 := aM (kB (kl BK260) hb); replace BK261 := aM (kB (kl BK261) hb); replace HB := aM (bS (bl) hb); (try clear hb); have hz14 := bc3 BK260; have hz15 := bc3 BK261) | (go_at_call 86; (with_reducible refine (api_Way_by_data_Same_2.calls k _ _ l0_1 _ _ l1_1 true _ ?side1 ?side2 ?side3 ?side4 A5.out).mono ?_); (case side1 => exact cl HR0_1); (case side2 => exact HC0_1.out); (case side3 => exact cl HR1_1); (case side4 => exact HC1_1.out); rintro e w16 ⟨rfl, hb⟩; replace BK260 := aM (kB (kl BK260) hb); replace BK261 := aM (kB (kl BK261) hb); replace HB := aM (bS (bl) hb); (try clear hb); have hz17 := bc3 BK260; have hz18 := bc3 BK261) | (go_at_call 89; (with_reducible refine (api_Rel_by_data_Same_3.calls k _ _ l0_2 _ _ l1_2 t264 _ ?side1 ?side2 ?side3 ?side4 A7.out).mono ?_); (case side1 => exact cl HR0_2); (case side2 => exact HC0_2.out); (case side3 => exact cl HR1_2); (case side4 => exact HC1_2.out); rintro e w19 ⟨rfl, hb⟩; replace BK260 := aM (kB (kl BK260) hb); replace BK261 := aM (kB (kl BK261) hb); replace HB := aM (bS (bl) hb); (try clear hb)))
   go_ret; exact ⟨by first | rfl | (simp [errW_none, errW_some] <;> rfl) | (simp [*, errW_none, errW_some] <;> rfl), bl⟩
  ·replace c6 := Bool.eq_false_iff.mpr c6; subst c6; have H1 : (some false) = some r := by rw [if_neg (show ¬ (false = true) by decide)] at H; exact H
   clear H; have H := H1; clear H1; obtain rfl := Option.some.inj H; go_enter Tryz.func64, Tryz.ntmps64
   go_wp2_with (first | ((with_reducible refine gate_dst (N := 2) rfl ?_); refine bx (N := 2) (cs := #[.slice A0_0 l0_0.length c0_0, .slice A0_1 l0_1.length c0_1, .slice A0_2 l0_2.length c0_2]) (t := 26) ?_; intro gb260 hg w20 hbox hb; have BK260 := aM (hbox); have GE260 := aM (gw (w := w) hg); replace HB := aM (bS (bl) hb); clear hb hbox hg) | ((with_reducible refine gate_dst (N := 3) rfl ?_); refine bx (N := 3) (cs := #[.slice A1_0 l1_0.length c1_0, .slice A1_1 l1_1.length c1_1, .slice A1_2 l1_2.length c1_2]) (t := 26) ?_; intro gb261 hg w21 hbox hb; have BK261 := aM (hbox); have GE261 := aM (gw (w := w) hg); obtain ⟨NB260_261, NB261_260⟩ := n2 BK260 hg; replace BK260 := aM (kB (kl BK260) hb); replace HB := aM (bS (bl) hb); clear hb hbox hg; have hn22 := nn NB260_261; have hz23 := bc3 BK260; have hz24 := bc3 BK261) | ((with_reducible refine gate_callee (f := 83) rfl ?_); refine goesL_ (some 9) rfl rfl Tryz.func83 (by kernel_rfl) rfl #[.slice A0_0 l0_0.length c0_0, .slice A1_0 l1_0.length c1_0, .func (.func 84) #[] #[]] rfl (by (try simp only [List.map_toArray, List.map_cons, List.map_nil]); first | done | rfl | (simp only [List.length_drop, List.length_take]; rfl)) ?_; (with_reducible refine (api_Node_by_data_Same_1.calls k _ _ l0_0 _ _ l1_0 true _ ?side1 ?side2 ?side3 ?side4 A3.out).mono ?_); (case side1 => exact cl HR0_0); (case side2 => exact HC0_0.out); (case side3 => exact cl HR1_0); (case side4 => exact HC1_0.out); rintro e w25 ⟨rfl, hb⟩; refine ⟨_, rfl, ?_⟩; replace BK260 := aM (kB (kl BK260) hb); replace BK261 := aM (kB (kl BK261) hb); replace HB := aM (bS (bl) hb); (try clear hb); have hz26 := bc3 BK260; have hz27 := bc3 BK261) | (go_at_call 86; (with_reducible refine (api_Way_by_data_Same_2.calls k _ _ l0_1 _ _ l1_1 false _ ?side1 ?side2 ?side3 ?side4 A5.out).mono ?_); (case side1 => exact cl HR0_1); (case side2 => exact HC0_1.out); (case side3 => exact cl HR1_1); (case side4 => exact HC1_1.out); rintro e w28 ⟨rfl, hb⟩; replace BK260 := aM (kB (kl BK260) hb); replace BK261 := aM (kB (kl BK261) hb); replace HB := aM (bS (bl) hb); (try clear hb)))
   go_ret; exact ⟨by first | rfl | (simp [errW_none, errW_some] <;> rfl) | (simp [*, errW_none, errW_some] <;> rfl), bl⟩
 ·replace c4 := Bool.eq_false_iff.mpr c4; subst c4; have H1 : (some false) = some r := by rw [if_neg (show ¬ (false = true) by decide)] at H; exact H
  clear H; have H := H1; clear H1; obtain rfl := Option.some.inj H; go_enter Tryz.func64, Tryz.ntmps64
  go_wp2_with (first | ((with_reducible refine gate_dst (N := 2) rfl ?_); refine bx (N := 2) (cs := #[.slice A0_0 l0_0.length c0_0, .slice A0_1 l0_1.length c0_1, .slice A0_2 l0_2.length c0_2]) (t := 26) ?_; intro gb260 hg w29 hbox hb; have BK260 := aM (hbox); have GE260 := aM (gw (w := w) hg); replace HB := aM (bS (bl) hb); clear hb hbox hg) | ((with_reducible refine gate_dst (N := 3) rfl ?_); refine bx (N := 3) (cs := #[.slice A1_0 l1_0.length c1_0, .slice A1_1 l1_1.length c1_1, .slice A1_2 l1_2.length c1_2]) (t := 26) ?_; intro gb261 hg w30 hbox hb; have BK261 := aM (hbox); have GE261 := aM (gw (w := w) hg); obtain ⟨NB260_261, NB261_260⟩ := n2 BK260 hg; replace BK260 := aM (kB (kl BK260) hb); replace HB := aM (bS (bl) hb); clear hb hbox hg; have hn31 := nn NB260_261; have hz32 := bc3 BK260; have hz33 := bc3 BK261) | ((with_reducible refine gate_callee (f := 83) rfl ?_); refine goesL_ (some 9) rfl rfl Tryz.func83 (by kernel_rfl) rfl #[.slice A0_0 l0_0.length c0_0, .slice A1_0 l1_0.length c1_0, .func (.func 84) #[] #[]] rfl (by (try simp only [List.map_toArray, List.map_cons, List.map_nil]); first | done | rfl | (simp only [List.length_drop, List.length_take]; rfl)) ?_; (with_reducible refine (api_Node_by_data_Same_1.calls k _ _ l0_0 _ _ l1_0 false _ ?side1 ?side2 ?side3 ?side4 A3.out).mono ?_); (case side1 => exact cl HR0_0); (case side2 => exact HC0_0.out); (case side3 => exact cl HR1_0); (case side4 => exact HC1_0.out); rintro e w34 ⟨rfl, hb⟩; refine ⟨_, rfl, ?_⟩; replace BK260 := aM (kB (kl BK260) hb); replace BK261 := aM (kB (kl BK261) hb); replace HB := aM (bS (bl) hb); (try clear hb)))
  go_ret; exact ⟨by first | rfl | (simp [errW_none, errW_some] <;> rfl) | (simp [*, errW_none, errW_some] <;> rfl), bl⟩
end Go.Proofs.YtijoaohckgbneaaGreat.PAll
