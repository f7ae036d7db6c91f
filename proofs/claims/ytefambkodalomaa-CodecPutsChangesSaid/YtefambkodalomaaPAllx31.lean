-- out of a driver of this session's prover over the kit's print: Lean checks it
import Derived.Test.YtefambkodalomaaPAllx0
import Derived.Test.YtefambkodalomaaPAllx11
import Derived.Test.YtefambkodalomaaPAllx13
import Derived.Test.YtefambkodalomaaPAllx18
import Derived.Test.YtefambkodalomaaPAllx28
import Derived.Test.YtefambkodalomaaPAllx29
import Derived.Test.YtefambkodalomaaPAllx30
namespace Go.Proofs.Ytefambkodalomaa.PAll
open Go.Proofs.YtefambkodalomaaG Go.Shelf Go.Lib
open Go.RowKit Go.Proofs.YtefambkodalomaaW.PrintWords Go.Proofs.YtefambkodalomaaW.PrintLast Go.Proofs.YtefambkodalomaaW.PrintMore
attribute [local go_sem] max2_int min2_int max_two min_two max_three min_three max_four min_four   -- for this text's walks alone
set_option linter.unusedVariables false
set_option linter.unusedSimpArgs false
def mapmakerlaw16_CodecPutsChanges.f (k : Nat) (l0 : List (S65)) : Option (Bool) := (mapmakerlaw16_Few.f k l0).bind fun t851 => (if t851 = true then ((codec_PutChanges.f k l0).bind fun t852 => ((mapmakerref16_PutChanges.f k l0).bind fun t853 => (if t852.toList = t853.toList then ((mapmakerlaw16_lives.f k).bind fun t854 => (some t854)) else (some false)))) else ((mapmakerlaw16_lives.f k).bind fun t855 => (some t855)))
theorem mapmakerlaw16_CodecPutsChanges.mono : ∀ a0 k, LeO (mapmakerlaw16_CodecPutsChanges.f k a0) (mapmakerlaw16_CodecPutsChanges.f (k + 1) a0) := by
 intro a0 k; unfold mapmakerlaw16_CodecPutsChanges.f
 repeat' first
   | (with_reducible exact codec_PutChanges.mono _ _)
   | (with_reducible exact mapmakerlaw16_Few.mono _ _)
   | (with_reducible exact mapmakerlaw16_lives.mono _)
   | (with_reducible exact mapmakerref16_PutChanges.mono _ _)
   | (with_reducible exact LeO.refl _)
   | (with_reducible exact LeO.none _)
   | (with_reducible refine LeO.ite ?_ ?_)
   | (with_reducible refine LeO.eB ?_ (fun _ => ?_))
   | (with_reducible refine LeO.bind ?_ (fun _ => ?_))
   | exact codec_PutChanges.mono _ _
   | exact mapmakerlaw16_Few.mono _ _
   | exact mapmakerlaw16_lives.mono _
   | exact mapmakerref16_PutChanges.mono _ _
   | exact LeO.none _
   | refine LeO.ite ?_ ?_
   | refine LeO.bind ?_ (fun _ => ?_)
set_option maxHeartbeats 8000000 in
set_option maxRecDepth 100000 in
theorem mapmakerlaw16_CodecPutsChanges.calls (k : Nat) (A0 : Option Addr) (c0 : Nat) (l0 : List (S65)) (r : Bool) (w : World) (hr0 : Kd.C k65 w A0 l0.length l0) (hc0 : l0.length ≤ c0) (h : mapmakerlaw16_CodecPutsChanges.f k l0 = some r) :
  Calls Try.prog 5 #[.slice A0 l0.length c0] w fun e w' => e = .returned (.bool r) ∧ Below w.heap.size w w' := by
 have HR0 := aM hr0; have HC0 := aM hc0; clear hr0 hc0; have HB := aM (Below.refl w.heap.size w); have H : ((mapmakerlaw16_Few.f k l0).bind fun t851 => (if t851 = true then ((codec_PutChanges.f k l0).bind fun t852 => ((mapmakerref16_PutChanges.f k l0).bind fun t853 => (if t852.toList = t853.toList then ((mapmakerlaw16_lives.f k).bind fun t854 => (some t854)) else (some false)))) else ((mapmakerlaw16_lives.f k).bind fun t855 => (some t855)))) = some r := h; clear h; replace H := Option.bind_eq_some_iff.mp H; obtain ⟨t851, A20, H⟩ := H; (try dsimp only at H); have A2 := aM A20; clear A20
 by_cases c3 : t851 = true
 ·subst c3; have H1 : ((codec_PutChanges.f k l0).bind fun t852 => ((mapmakerref16_PutChanges.f k l0).bind fun t853 => (if t852.toList = t853.toList then ((mapmakerlaw16_lives.f k).bind fun t854 => (some t854)) else (some false)))) = some r := by rw [if_pos rfl] at H; exact H
  clear H; have H := H1; clear H1; replace H := Option.bind_eq_some_iff.mp H; obtain ⟨t852, A40, H⟩ := H; (try dsimp only at H); have A4 := aM A40; clear A40; replace H := Option.bind_eq_some_iff.mp H; obtain ⟨t853, A50, H⟩ := H; (try dsimp only at H); have A5 := aM A50; clear A50
  by_cases c6 : t852.toList = t853.toList
  ·rw [if_pos c6] at H; have c6b0 : (t852.toList == t853.toList) = true := beq_iff_eq.mpr c6; have c6b1 : (t852.toList != t853.toList) = false := bne_eq_false_iff_eq.mpr c6; clear c6; replace H := Option.bind_eq_some_iff.mp H; obtain ⟨t854, A70, H⟩ := H; (try dsimp only at H); have A7 := aM A70; clear A70; obtain rfl := Option.some.inj H; go_enter Try.func5, Try.ntmps5
   go_wp2_with (first | ((with_reducible refine gate_callee (f := 17) rfl ?_); refine gL (some 4) Try.func17 #[.slice A0 l0.length c0] ?_; (with_reducible refine (mapmakerlaw16_Few.calls k (fun k_ => k_ < w.heap.size) _ _ l0 true _ ?side1 A2.out).mono ?_); (case side1 => exact Kd.V_mk HC0.out (Kd.F_below (Kd.C_F k65_heap HR0.out) (bl))); rintro e w8 ⟨rfl, hb⟩; refine ⟨_, rfl, ?_⟩; replace HB := aM (bS (bl) hb); (try clear hb)) | ((with_reducible refine gate_callee (f := 18) rfl ?_); refine gL (some 8) Try.func18 #[.slice A0 l0.length c0] ?_; (with_reducible refine (codec_PutChanges.calls k _ _ l0 t852 _ ?side1 ?side2 A4.out).mono ?_); (case side1 => exact cl HR0); (case side2 => exact HC0.out); rintro e w9 ⟨rfl, hb⟩; refine ⟨_, rfl, ?_⟩; replace HB := aM (bS (bl) hb); (try clear hb)) | ((with_reducible refine gate_callee (f := 19) rfl ?_); refine gL (some 10) Try.func19 #[.slice A0 l0.length c0] ?_; (with_reducible refine (mapmakerref16_PutChanges.calls k _ _ l0 t853 _ ?side1 ?side2 A5.out).mono ?_); (case side1 => exact cl HR0); (case side2 => exact HC0.out); rintro e w10 ⟨rfl, hb⟩; refine ⟨_, rfl, ?_⟩; replace HB := aM (bS (bl) hb); (try clear hb)) | (go_at_call 11; (with_reducible refine (mapmakerlaw16_lives.calls k  t854 _ A7.out).mono ?_); rintro e w11 ⟨rfl, hb⟩; replace HB := aM (bS (bl) hb); (try clear hb)))
   go_ret; exact ⟨by first | rfl | (simp [errW_none, errW_some] <;> rfl) | (simp [*, errW_none, errW_some] <;> rfl), bl⟩
  ·rw [if_neg c6] at H; have c6b0 : (t852.toList == t853.toList) = false := beq_eq_false_iff_ne.mpr c6; have c6b1 : (t852.toList != t853.toList) = true := bne_iff_ne.mpr c6; obtain rfl := Option.some.inj H; go_enter Try.func5, Try.ntmps5
   go_wp2_with (first | ((with_reducible refine gate_callee (f := 17) rfl ?_); refine gL (some 4) Try.func17 #[.slice A0 l0.length c0] ?_; (with_reducible refine (mapmakerlaw16_Few.calls k (fun k_ => k_ < w.heap.size) _ _ l0 true _ ?side1 A2.out).mono ?_); (case side1 => exact Kd.V_mk HC0.out (Kd.F_below (Kd.C_F k65_heap HR0.out) (bl))); rintro e w12 ⟨rfl, hb⟩; refine ⟨_, rfl, ?_⟩; replace HB := aM (bS (bl) hb); (try clear hb)) | ((with_reducible refine gate_callee (f := 18) rfl ?_); refine gL (some 8) Try.func18 #[.slice A0 l0.length c0] ?_; (with_reducible refine (codec_PutChanges.calls k _ _ l0 t852 _ ?side1 ?side2 A4.out).mono ?_); (case side1 => exact cl HR0); (case side2 => exact HC0.out); rintro e w13 ⟨rfl, hb⟩; refine ⟨_, rfl, ?_⟩; replace HB := aM (bS (bl) hb); (try clear hb)) | ((with_reducible refine gate_callee (f := 19) rfl ?_); refine gL (some 10) Try.func19 #[.slice A0 l0.length c0] ?_; (with_reducible refine (mapmakerref16_PutChanges.calls k _ _ l0 t853 _ ?side1 ?side2 A5.out).mono ?_); (case side1 => exact cl HR0); (case side2 => exact HC0.out); rintro e w14 ⟨rfl, hb⟩; refine ⟨_, rfl, ?_⟩; replace HB := aM (bS (bl) hb); (try clear hb)))
   go_ret; exact ⟨by first | rfl | (simp [errW_none, errW_some] <;> rfl) | (simp [*, errW_none, errW_some] <;> rfl), bl⟩
 ·replace c3 := Bool.eq_false_iff.mpr c3; subst c3; have H1 : ((mapmakerlaw16_lives.f k).bind fun t855 => (some t855)) = some r := by rw [if_neg (show ¬ (false = true) by decide)] at H; exact H
  clear H; have H := H1; clear H1; replace H := Option.bind_eq_some_iff.mp H; obtain ⟨t855, A150, H⟩ := H; (try dsimp only at H); have A15 := aM A150; clear A150; obtain rfl := Option.some.inj H; go_enter Try.func5, Try.ntmps5
  go_wp2_with (first | ((with_reducible refine gate_callee (f := 17) rfl ?_); refine gL (some 4) Try.func17 #[.slice A0 l0.length c0] ?_; (with_reducible refine (mapmakerlaw16_Few.calls k (fun k_ => k_ < w.heap.size) _ _ l0 false _ ?side1 A2.out).mono ?_); (case side1 => exact Kd.V_mk HC0.out (Kd.F_below (Kd.C_F k65_heap HR0.out) (bl))); rintro e w16 ⟨rfl, hb⟩; refine ⟨_, rfl, ?_⟩; replace HB := aM (bS (bl) hb); (try clear hb)) | ((with_reducible refine gate_callee (f := 11) rfl ?_); refine gL (some 6) Try.func11 #[] ?_; (with_reducible refine (mapmakerlaw16_lives.calls k  t855 _ A15.out).mono ?_); rintro e w17 ⟨rfl, hb⟩; refine ⟨_, rfl, ?_⟩; replace HB := aM (bS (bl) hb); (try clear hb)))
  go_ret; exact ⟨by first | rfl | (simp [errW_none, errW_some] <;> rfl) | (simp [*, errW_none, errW_some] <;> rfl), bl⟩
def wf65 (x : S65) : Prop := (Lit.int .i64 x.f0).wf = true ∧ (Lit.int .i64 x.f1).wf = true ∧ wf53 x.f2 ∧ wf56 x.f3 ∧ wf59 x.f4
set_option maxRecDepth 100000 in
theorem opens65 : Opens Try.prog 65 k65 wf65 := by
 refine Opens.iso (d := (Kd.pair (Kd.int .i64) (Kd.pair (Kd.int .i64) (Kd.pair k53 (Kd.pair k56 k59))))) (W := fun x => (Lit.int .i64 x.1).wf = true ∧ (Lit.int .i64 x.2.1).wf = true ∧ wf53 x.2.2.1 ∧ wf56 x.2.2.2.1 ∧ wf59 x.2.2.2.2) (f := fun x : S65 => (x.f0, x.f1, x.f2, x.f3, x.f4)) (g := fun x => (⟨x.1, x.2.1, x.2.2.1, x.2.2.2.1, x.2.2.2.2⟩ : S65)) ?_ (fun _ => rfl); refine Opens.struct Try.underlying65 (by kernel_rfl) ?_; exact (OpensF.cons rfl (Opens.int Try.underlying3 (by kernel_rfl)) (OpensF.cons rfl (Opens.int Try.underlying3 (by kernel_rfl)) (OpensF.cons rfl opens53 (OpensF.cons rfl opens56 (OpensF.one rfl opens59)))))
theorem mapmakerlaw16_CodecPutsChanges.opens_0 : Opens Try.prog 37 (Kd.slice 65 k65) (fun x => (x.length ≤ 140737488355328 ∧ ∀ y ∈ x, wf65 y)) := (Opens.slice Try.underlying37 (by kernel_rfl) (of_decide_eq_true (by kernel_rfl)) opens65)
def mapmakerlaw16_CodecPutsChanges.Pure : Prop := ∀ (l0 : List (S65)), (l0.length ≤ 140737488355328 ∧ ∀ y ∈ l0, wf65 y) → ∃ k, mapmakerlaw16_CodecPutsChanges.f k l0 = some true
theorem mapmakerlaw16_CodecPutsChanges.walk (P : mapmakerlaw16_CodecPutsChanges.Pure) (w : World) (A0 : Option Addr) (c0 : Nat) (l0 : List (S65)) (hr0 : Kd.C k65 w A0 l0.length l0) (hc0 : l0.length ≤ c0) (w0 : (l0.length ≤ 140737488355328 ∧ ∀ y ∈ l0, wf65 y)) :
  Calls Try.prog 5 #[.slice A0 l0.length c0] w fun e w' => e = .returned (.bool true) ∧ Below w.heap.size w w' := by
 obtain ⟨k, h⟩ := P l0 w0; refine (mapmakerlaw16_CodecPutsChanges.calls k A0 c0 l0 true w hr0 hc0 h).mono ?_; rintro e w' ⟨rfl, hd⟩; exact ⟨rfl, hd⟩
end Go.Proofs.Ytefambkodalomaa.PAll
