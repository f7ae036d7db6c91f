import Derived.Test.YtmejeiddlhjjmaaPNodingIdempotentx0
import Derived.Test.YtmejeiddlhjjmaaPNodingIdempotentx2
import Derived.Test.YtmejeiddlhjjmaaPNodingIdempotentx3
import Derived.Test.YtmejeiddlhjjmaaPNodingIdempotentx4
import Derived.Test.YtmejeiddlhjjmaaPNodingIdempotentx6
import Derived.Test.YtmejeiddlhjjmaaPNodingIdempotentx10
import Derived.Test.YtmejeiddlhjjmaaPNodingIdempotentx11
import Derived.Test.YtmejeiddlhjjmaaPNodingIdempotentx12
namespace Go.Proofs.Ytmejeiddlhjjmaa.PNodingIdempotent
open Go.Proofs.YtmejeiddlhjjmaaG Go.Shelf Go.Lib
open Go.RowKit Go.Proofs.YtmejeiddlhjjmaaW.PrintWords Go.Proofs.YtmejeiddlhjjmaaW.PrintLast Go.Proofs.YtmejeiddlhjjmaaW.PrintMore
attribute [local go_sem] max2_int min2_int max_two min_two max_three min_three max_four min_four
set_option linter.unusedVariables false
set_option linter.unusedSimpArgs false
attribute [local go_sem high] eqA35
mutual
def mapmakerlaw20_NodingIdempotent.l0 : Nat → List (S35) → List (S35) → Int → Option (Bool)
 | 0, _, _, _ => none
 | k + 1, x3, x4, x5 => if x5 < (x3.length : Int) then (if 0 ≤ x5 then ((mapmakerlaw20_end.f k x4 ((rd_T35 x3 x5).f0.f0) ((rd_T35 x3 x5).f0.f1)).bind fun t271 => (if t271 = true then ((mapmakerlaw20_end.f k x4 ((rd_T35 x3 x5).f1.f0) ((rd_T35 x3 x5).f1.f1)).bind fun t273 => (if t273 = true then ((mapmakerref09_Less.f ((rd_T35 x3 x5).f0.f0) ((rd_T35 x3 x5).f0.f1) ((rd_T35 x3 x5).f0.f0) ((rd_T35 x3 x5).f0.f1) ((rd_T35 x3 x5).f0.f0) ((rd_T35 x3 x5).f0.f1) ((rd_T35 x3 x5).f1.f0) ((rd_T35 x3 x5).f1.f1)).bind fun t277 => (mapmakerlaw20_NodingIdempotent.j1 k x3 x4 x5 (!t277))) else (mapmakerlaw20_NodingIdempotent.j1 k x3 x4 x5 true))) else (mapmakerlaw20_NodingIdempotent.j1 k x3 x4 x5 true))) else (none)) else ((mapmakerlaw20_lives.f k).bind fun t269 => (some t269))
def mapmakerlaw20_NodingIdempotent.j1 : Nat → List (S35) → List (S35) → Int → Bool → Option (Bool)
 | 0, _, _, _, _ => none
 | k + 1, x3, x4, x5, x62 => if x62 = true then (some false) else (mapmakerlaw20_NodingIdempotent.l1 k x3 x4 x5 0)
def mapmakerlaw20_NodingIdempotent.l1 : Nat → List (S35) → List (S35) → Int → Int → Option (Bool)
 | 0, _, _, _, _ => none
 | k + 1, x3, x4, x5, x6 => if x6 < x5 then (mapmakerlaw20_NodingIdempotent.j3 k x3 x4 x5 x6 (decide ((x3.length : Int) ≤ 80))) else (mapmakerlaw20_NodingIdempotent.j3 k x3 x4 x5 x6 false)
def mapmakerlaw20_NodingIdempotent.j3 : Nat → List (S35) → List (S35) → Int → Int → Bool → Option (Bool)
 | 0, _, _, _, _, _ => none
 | k + 1, x3, x4, x5, x6, x70 => if x70 = true then (if 0 ≤ x5 then (if x5 < (x3.length : Int) then (if 0 ≤ x6 then (if x6 < (x3.length : Int) then (if ((!(((rd_T35 x3 x5).f0.f0) == ((rd_T35 x3 x6).f0.f0)) || (!(((rd_T35 x3 x5).f0.f1) == ((rd_T35 x3 x6).f0.f1)))) || ((!(((rd_T35 x3 x5).f1.f0) == ((rd_T35 x3 x6).f1.f0)) || (!(((rd_T35 x3 x5).f1.f1) == ((rd_T35 x3 x6).f1.f1)))))) = true then ((mapmakerref09_Relate.f k ((rd_T35 x3 x5).f0.f0) ((rd_T35 x3 x5).f0.f1) ((rd_T35 x3 x5).f1.f0) ((rd_T35 x3 x5).f1.f1) ((rd_T35 x3 x6).f0.f0) ((rd_T35 x3 x6).f0.f1) ((rd_T35 x3 x6).f1.f0) ((rd_T35 x3 x6).f1.f1)).bind fun t282 => (if t282 = 3 then (some false) else (mapmakerlaw20_NodingIdempotent.l1 k x3 x4 x5 (wrap64 (x6 + 1))))) else (mapmakerlaw20_NodingIdempotent.l1 k x3 x4 x5 (wrap64 (x6 + 1)))) else (none)) else (none)) else (none)) else (none)) else (mapmakerlaw20_NodingIdempotent.l0 k x3 x4 (wrap64 (x5 + 1)))
end
def mapmakerlaw20_NodingIdempotent.f (k : Nat) (l0 : List (S35)) : Option (Bool) := (mapmakerlaw20_few.f l0).bind fun t257 => (if t257 = true then ((noding_Split.f k l0).bind fun t259 => ((noding_Sort.f k l0).bind fun t262 => ((noding_Split.f k t259).bind fun t265 => ((mapmakerref20_Same.f k t265 t259).bind fun t268 => (if t268 = true then (mapmakerlaw20_NodingIdempotent.l0 k t259 t262 0) else (some false)))))) else ((mapmakerlaw20_lives.f k).bind fun t258 => (some t258)))
theorem mapmakerlaw20_NodingIdempotent.mono_l : ∀ k, (∀ y0 y1 y2, LeO (mapmakerlaw20_NodingIdempotent.l0 k y0 y1 y2) (mapmakerlaw20_NodingIdempotent.l0 (k + 1) y0 y1 y2)) ∧ (∀ y0 y1 y2 y3, LeO (mapmakerlaw20_NodingIdempotent.j1 k y0 y1 y2 y3) (mapmakerlaw20_NodingIdempotent.j1 (k + 1) y0 y1 y2 y3)) ∧ (∀ y0 y1 y2 y3, LeO (mapmakerlaw20_NodingIdempotent.l1 k y0 y1 y2 y3) (mapmakerlaw20_NodingIdempotent.l1 (k + 1) y0 y1 y2 y3)) ∧ (∀ y0 y1 y2 y3 y4, LeO (mapmakerlaw20_NodingIdempotent.j3 k y0 y1 y2 y3 y4) (mapmakerlaw20_NodingIdempotent.j3 (k + 1) y0 y1 y2 y3 y4))
 | 0 => ⟨fun _ _ _ r h => by simp [mapmakerlaw20_NodingIdempotent.l0] at h, fun _ _ _ _ r h => by simp [mapmakerlaw20_NodingIdempotent.j1] at h, fun _ _ _ _ r h => by simp [mapmakerlaw20_NodingIdempotent.l1] at h, fun _ _ _ _ _ r h => by simp [mapmakerlaw20_NodingIdempotent.j3] at h⟩
 | k + 1 => by
  obtain ⟨ih0, ih1, ih2, ih3⟩ := mapmakerlaw20_NodingIdempotent.mono_l k
  refine ⟨?_, ?_, ?_, ?_⟩
  ·intro y0 y1 y2
   unfold mapmakerlaw20_NodingIdempotent.l0
   repeat' first
   | (with_reducible exact ih0 _ _ _)
   | (with_reducible exact ih1 _ _ _ _)
   | (with_reducible exact ih2 _ _ _ _)
   | (with_reducible exact ih3 _ _ _ _ _)
   | (with_reducible exact mapmakerlaw20_end.mono _ _ _ _)
   | (with_reducible exact mapmakerlaw20_lives.mono _)
   | (with_reducible exact mapmakerref09_Relate.mono _ _ _ _ _ _ _ _ _)
   | (with_reducible exact mapmakerref20_Same.mono _ _ _)
   | (with_reducible exact noding_Sort.mono _ _)
   | (with_reducible exact noding_Split.mono _ _)
   | (with_reducible exact LeO.refl _)
   | (with_reducible exact LeO.none _)
   | (with_reducible refine LeO.ite ?_ ?_)
   | (with_reducible refine LeO.bind ?_ (fun _ => ?_))
   | exact ih0 _ _ _
   | exact ih1 _ _ _ _
   | exact ih2 _ _ _ _
   | exact ih3 _ _ _ _ _
   | exact mapmakerlaw20_end.mono _ _ _ _
   | exact mapmakerlaw20_lives.mono _
   | exact mapmakerref09_Relate.mono _ _ _ _ _ _ _ _ _
   | exact mapmakerref20_Same.mono _ _ _
   | exact noding_Sort.mono _ _
   | exact noding_Split.mono _ _
   | exact LeO.none _
   | refine LeO.ite ?_ ?_
   | refine LeO.bind ?_ (fun _ => ?_)
  ·intro y0 y1 y2 y3
   unfold mapmakerlaw20_NodingIdempotent.j1
   repeat' first
   | (with_reducible exact ih0 _ _ _)
   | (with_reducible exact ih1 _ _ _ _)
   | (with_reducible exact ih2 _ _ _ _)
   | (with_reducible exact ih3 _ _ _ _ _)
   | (with_reducible exact mapmakerlaw20_end.mono _ _ _ _)
   | (with_reducible exact mapmakerlaw20_lives.mono _)
   | (with_reducible exact mapmakerref09_Relate.mono _ _ _ _ _ _ _ _ _)
   | (with_reducible exact mapmakerref20_Same.mono _ _ _)
   | (with_reducible exact noding_Sort.mono _ _)
   | (with_reducible exact noding_Split.mono _ _)
   | (with_reducible exact LeO.refl _)
   | (with_reducible exact LeO.none _)
   | (with_reducible refine LeO.ite ?_ ?_)
   | (with_reducible refine LeO.bind ?_ (fun _ => ?_))
   | exact ih0 _ _ _
   | exact ih1 _ _ _ _
   | exact ih2 _ _ _ _
   | exact ih3 _ _ _ _ _
   | exact mapmakerlaw20_end.mono _ _ _ _
   | exact mapmakerlaw20_lives.mono _
   | exact mapmakerref09_Relate.mono _ _ _ _ _ _ _ _ _
   | exact mapmakerref20_Same.mono _ _ _
   | exact noding_Sort.mono _ _
   | exact noding_Split.mono _ _
   | exact LeO.none _
   | refine LeO.ite ?_ ?_
   | refine LeO.bind ?_ (fun _ => ?_)
  ·intro y0 y1 y2 y3
   unfold mapmakerlaw20_NodingIdempotent.l1
   repeat' first
   | (with_reducible exact ih0 _ _ _)
   | (with_reducible exact ih1 _ _ _ _)
   | (with_reducible exact ih2 _ _ _ _)
   | (with_reducible exact ih3 _ _ _ _ _)
   | (with_reducible exact mapmakerlaw20_end.mono _ _ _ _)
   | (with_reducible exact mapmakerlaw20_lives.mono _)
   | (with_reducible exact mapmakerref09_Relate.mono _ _ _ _ _ _ _ _ _)
   | (with_reducible exact mapmakerref20_Same.mono _ _ _)
   | (with_reducible exact noding_Sort.mono _ _)
   | (with_reducible exact noding_Split.mono _ _)
   | (with_reducible exact LeO.refl _)
   | (with_reducible exact LeO.none _)
   | (with_reducible refine LeO.ite ?_ ?_)
   | (with_reducible refine LeO.bind ?_ (fun _ => ?_))
   | exact ih0 _ _ _
   | exact ih1 _ _ _ _
   | exact ih2 _ _ _ _
   | exact ih3 _ _ _ _ _
   | exact mapmakerlaw20_end.mono _ _ _ _
   | exact mapmakerlaw20_lives.mono _
   | exact mapmakerref09_Relate.mono _ _ _ _ _ _ _ _ _
   | exact mapmakerref20_Same.mono _ _ _
   | exact noding_Sort.mono _ _
   | exact noding_Split.mono _ _
   | exact LeO.none _
   | refine LeO.ite ?_ ?_
   | refine LeO.bind ?_ (fun _ => ?_)
  ·intro y0 y1 y2 y3 y4
   unfold mapmakerlaw20_NodingIdempotent.j3
   repeat' first
   | (with_reducible exact ih0 _ _ _)
   | (with_reducible exact ih1 _ _ _ _)
   | (with_reducible exact ih2 _ _ _ _)
   | (with_reducible exact ih3 _ _ _ _ _)
   | (with_reducible exact mapmakerlaw20_end.mono _ _ _ _)
   | (with_reducible exact mapmakerlaw20_lives.mono _)
   | (with_reducible exact mapmakerref09_Relate.mono _ _ _ _ _ _ _ _ _)
   | (with_reducible exact mapmakerref20_Same.mono _ _ _)
   | (with_reducible exact noding_Sort.mono _ _)
   | (with_reducible exact noding_Split.mono _ _)
   | (with_reducible exact LeO.refl _)
   | (with_reducible exact LeO.none _)
   | (with_reducible refine LeO.ite ?_ ?_)
   | (with_reducible refine LeO.bind ?_ (fun _ => ?_))
   | exact ih0 _ _ _
   | exact ih1 _ _ _ _
   | exact ih2 _ _ _ _
   | exact ih3 _ _ _ _ _
   | exact mapmakerlaw20_end.mono _ _ _ _
   | exact mapmakerlaw20_lives.mono _
   | exact mapmakerref09_Relate.mono _ _ _ _ _ _ _ _ _
   | exact mapmakerref20_Same.mono _ _ _
   | exact noding_Sort.mono _ _
   | exact noding_Split.mono _ _
   | exact LeO.none _
   | refine LeO.ite ?_ ?_
   | refine LeO.bind ?_ (fun _ => ?_)
theorem mapmakerlaw20_NodingIdempotent.mono : ∀ a0 k, LeO (mapmakerlaw20_NodingIdempotent.f k a0) (mapmakerlaw20_NodingIdempotent.f (k + 1) a0) := by
 intro a0 k
 obtain ⟨ih0, ih1, ih2, ih3⟩ := mapmakerlaw20_NodingIdempotent.mono_l k
 unfold mapmakerlaw20_NodingIdempotent.f
 repeat' first
   | (with_reducible exact ih0 _ _ _)
   | (with_reducible exact ih1 _ _ _ _)
   | (with_reducible exact ih2 _ _ _ _)
   | (with_reducible exact ih3 _ _ _ _ _)
   | (with_reducible exact mapmakerlaw20_end.mono _ _ _ _)
   | (with_reducible exact mapmakerlaw20_lives.mono _)
   | (with_reducible exact mapmakerref09_Relate.mono _ _ _ _ _ _ _ _ _)
   | (with_reducible exact mapmakerref20_Same.mono _ _ _)
   | (with_reducible exact noding_Sort.mono _ _)
   | (with_reducible exact noding_Split.mono _ _)
   | (with_reducible exact LeO.refl _)
   | (with_reducible exact LeO.none _)
   | (with_reducible refine LeO.ite ?_ ?_)
   | (with_reducible refine LeO.bind ?_ (fun _ => ?_))
   | exact ih0 _ _ _
   | exact ih1 _ _ _ _
   | exact ih2 _ _ _ _
   | exact ih3 _ _ _ _ _
   | exact mapmakerlaw20_end.mono _ _ _ _
   | exact mapmakerlaw20_lives.mono _
   | exact mapmakerref09_Relate.mono _ _ _ _ _ _ _ _ _
   | exact mapmakerref20_Same.mono _ _ _
   | exact noding_Sort.mono _ _
   | exact noding_Split.mono _ _
   | exact LeO.none _
   | refine LeO.ite ?_ ?_
   | refine LeO.bind ?_ (fun _ => ?_)
def mapmakerlaw20_NodingIdempotent.T9 : Bool × List (List Nat × List Nat) := (true, [([], []), ([], []), ([], []), ([1, 2], [1, 2]), ([3], [3]), ([4], [4]), ([0, 5], [0, 5]), ([6], [6]), ([7, 6], [7]), ([8], [8]), ([8], [8]), ([8], [8]), ([10, 11, 8], [8, 10, 11]), ([12, 8], [8, 12]), ([13, 8], [8, 13]), ([9, 14, 8, 8], [8, 9, 14]), ([15, 8], [8, 15]), ([8, 16], [8, 16]), ([17, 15], [17]), ([18], [18]), ([18], [18]), ([19, 20, 18], [18, 19, 20]), ([21, 18], [18, 21]), ([22, 18], [18, 22]), ([18], [18]), ([18], [18]), ([24, 25, 18], [18, 24, 25]), ([26, 18], [18, 26]), ([27, 18], [18, 27]), ([23, 28, 18], [18, 23, 28]), ([18], [18]), ([18], [18]), ([30, 31, 18], [18, 30, 31]), ([32, 18], [18, 32]), ([29, 33, 18, 18], [18, 29, 33]), ([34, 18], [18, 34]), ([18, 35], [18, 35])])
def mapmakerlaw20_NodingIdempotent.B9 : List Nat := [0, 0, 0, 6, 14, 30, 63, 127, 255, 511, 511, 511, 3583, 7679, 15871, 32767, 65535, 131071, 262143, 524287, 524287, 2097151, 4194303, 8388607, 524287, 524287, 50855935, 117964799, 252182527, 536870911, 524287, 524287, 3221749759, 7516717055, 17179869183, 34359738367, 68719476735]
theorem mapmakerlaw20_NodingIdempotent.tab9 : rtab .any (opsOf Try.f6 9) = mapmakerlaw20_NodingIdempotent.T9 := by kernel_rfl
theorem mapmakerlaw20_NodingIdempotent.bits9 : waitsOk mapmakerlaw20_NodingIdempotent.T9.2 mapmakerlaw20_NodingIdempotent.B9 = true := by kernel_rfl
def mapmakerlaw20_NodingIdempotent.T14 : Bool × List (List Nat × List Nat) := (true, [([], []), ([], []), ([0, 1], [0, 1]), ([2], [2]), ([], []), ([], []), ([4, 5], [4, 5]), ([6], [6]), ([3, 7], [3, 7]), ([8], [8]), ([9], [9]), ([9], [9]), ([10, 11, 9], [9, 10, 11]), ([12, 9], [9, 12]), ([9], [9]), ([9], [9]), ([14, 15, 9], [9, 14, 15]), ([16, 9], [9, 16]), ([13, 17, 9, 9], [9, 13, 17]), ([18, 9], [9, 18]), ([9, 19], [9, 19])])
def mapmakerlaw20_NodingIdempotent.B14 : List Nat := [0, 0, 3, 7, 0, 0, 48, 112, 255, 511, 1023, 1023, 4095, 8191, 1023, 1023, 50175, 115711, 262143, 524287, 1048575]
theorem mapmakerlaw20_NodingIdempotent.tab14 : rtab .any (opsOf Try.f6 14) = mapmakerlaw20_NodingIdempotent.T14 := by kernel_rfl
theorem mapmakerlaw20_NodingIdempotent.bits14 : waitsOk mapmakerlaw20_NodingIdempotent.T14.2 mapmakerlaw20_NodingIdempotent.B14 = true := by kernel_rfl
set_option maxHeartbeats 8000000 in
set_option maxRecDepth 100000 in
theorem mapmakerlaw20_NodingIdempotent.calls (k : Nat) (A0 : Option Addr) (c0 : Nat) (l0 : List (S35)) (r : Bool) (w : World) (hr0 : Kd.C k35 w A0 l0.length l0) (hc0 : l0.length ≤ c0) (h : mapmakerlaw20_NodingIdempotent.f k l0 = some r) :
  Calls Try.prog 6 #[.slice A0 l0.length c0] w fun e w' => e = .returned (.bool r) ∧ Below w.heap.size w w' := by
 have hu33 := Try.underlying33
 have hu35 := Try.underlying35
 have HR0 := aM hr0
 have HC0 := aM hc0
 clear hr0 hc0
 have HB := aM (Below.refl w.heap.size w)
 have H : ((mapmakerlaw20_few.f l0).bind fun t257 => (if t257 = true then ((noding_Split.f k l0).bind fun t259 => ((noding_Sort.f k l0).bind fun t262 => ((noding_Split.f k t259).bind fun t265 => ((mapmakerref20_Same.f k t265 t259).bind fun t268 => (if t268 = true then (mapmakerlaw20_NodingIdempotent.l0 k t259 t262 0) else (some false)))))) else ((mapmakerlaw20_lives.f k).bind fun t258 => (some t258)))) = some r := h
 clear h
 replace H := Option.bind_eq_some_iff.mp H
 obtain ⟨t257, A20, H⟩ := H
 try dsimp only at H
 have A2 := aM A20
 clear A20
 by_cases c3 : t257 = true
 ·subst c3
  have H1 : ((noding_Split.f k l0).bind fun t259 => ((noding_Sort.f k l0).bind fun t262 => ((noding_Split.f k t259).bind fun t265 => ((mapmakerref20_Same.f k t265 t259).bind fun t268 => (if t268 = true then (mapmakerlaw20_NodingIdempotent.l0 k t259 t262 0) else (some false)))))) = some r := by rw [if_pos rfl] at H; exact H
  clear H
  have H := H1
  clear H1
  replace H := Option.bind_eq_some_iff.mp H
  obtain ⟨t259, A40, H⟩ := H
  try dsimp only at H
  have A4 := aM A40
  clear A40
  replace H := Option.bind_eq_some_iff.mp H
  obtain ⟨t262, A50, H⟩ := H
  try dsimp only at H
  have A5 := aM A50
  clear A50
  replace H := Option.bind_eq_some_iff.mp H
  obtain ⟨t265, A60, H⟩ := H
  try dsimp only at H
  have A6 := aM A60
  clear A60
  replace H := Option.bind_eq_some_iff.mp H
  obtain ⟨t268, A70, H⟩ := H
  try dsimp only at H
  have A7 := aM A70
  clear A70
  by_cases c8 : t268 = true
  ·subst c8
   have H1 : (mapmakerlaw20_NodingIdempotent.l0 k t259 t262 0) = some r := by rw [if_pos rfl] at H; exact H
   clear H
   have H := H1
   clear H1
   have H' := aM H
   clear H
   go_enter Try.func6, Try.ntmps6
   go_wp2_with (first | ((with_reducible refine gate_callee (f := 8) rfl ?_); refine goesL_ (some 8) rfl rfl Try.func8 (by kernel_rfl) rfl #[.slice A0 l0.length c0] rfl (by (try simp only [List.map_toArray, List.map_cons, List.map_nil]); first | done | rfl | (simp only [List.length_drop, List.length_take]; rfl)) ?_; (with_reducible refine (mapmakerlaw20_few.calls _ _ l0 true _ ?side1 ?side2 A2.out).mono ?_); (case side1 => repeat (first | exact HR0.out | (with_reducible refine cA ?_ _) | (with_reducible refine cN ?_ _) | (with_reducible refine cD ?_))); (case side2 => exact HC0.out); rintro e w' ⟨rfl, ⟨nd, rfl⟩⟩; refine ⟨_, rfl, ?_⟩) | ((with_reducible refine gate_callee (f := 19) rfl ?_); refine goesL_ (some 12) rfl rfl Try.func19 (by kernel_rfl) rfl #[.slice A0 l0.length c0] rfl (by (try simp only [List.map_toArray, List.map_cons, List.map_nil]); first | done | rfl | (simp only [List.length_drop, List.length_take]; rfl)) ?_; (with_reducible refine (noding_Split.calls k _ _ l0 t259 _ ?side1 ?side2 A4.out).mono ?_); (case side1 => repeat (first | exact HR0.out | (with_reducible refine cA ?_ _) | (with_reducible refine cN ?_ _) | (with_reducible refine cD ?_))); (case side2 => exact HC0.out); rintro e w9 ⟨v260, rfl, ho0, hb⟩; refine ⟨_, rfl, ?_⟩; have HO261 := aM (Kd.R_lower ho0 (below_size (bl))); replace HB := aM (bS (bl) hb); (try clear hb); (try clear hb2); (try clear hk); (try clear hi); (try clear ho0)) | ((with_reducible refine gate_callee (f := 13) rfl ?_); refine goesL_ (some 14) rfl rfl Try.func13 (by kernel_rfl) rfl #[.slice A0 l0.length c0] rfl (by (try simp only [List.map_toArray, List.map_cons, List.map_nil]); first | done | rfl | (simp only [List.length_drop, List.length_take]; rfl)) ?_; (with_reducible refine (noding_Sort.calls k _ _ l0 t262 _ ?side1 ?side2 A5.out).mono ?_); (case side1 => repeat (first | exact (Kd.C_below HR0.out HB.out) | (with_reducible refine cA ?_ _) | (with_reducible refine cN ?_ _) | (with_reducible refine cD ?_))); (case side2 => exact HC0.out); rintro e w10 ⟨v263, rfl, ho0, hb⟩; refine ⟨_, rfl, ?_⟩; have HO264 := aM (Kd.R_lower (Kd.R_new' ho0 (Kd.R_lt (rl HO261))) (below_size (bl))); replace HO261 := aM (rE (rl HO261) (Kd.R_base ho0) hb); replace HB := aM (bS (bl) hb); (try clear hb); (try clear hb2); (try clear hk); (try clear hi); (try clear ho0); obtain ⟨Ao11, co11, eo11⟩ := Kd.R_slice HO261.out; subst eo11) | ((with_reducible refine gate_callee (f := 19) rfl ?_); refine goesL_ (some 16) rfl rfl Try.func19 (by kernel_rfl) rfl #[.slice Ao11 t259.length co11] rfl (by (try simp only [List.map_toArray, List.map_cons, List.map_nil]); first | done | rfl | (simp only [List.length_drop, List.length_take]; rfl)) ?_; (with_reducible refine (noding_Split.calls k _ _ t259 t265 _ ?side1 ?side2 A6.out).mono ?_); (case side1 => repeat (first | exact (rR HO261.out).2.2 | (with_reducible refine cA ?_ _) | (with_reducible refine cN ?_ _) | (with_reducible refine cD ?_))); (case side2 => exact (rR HO261.out).2.1); rintro e w12 ⟨v266, rfl, ho0, hb⟩; refine ⟨_, rfl, ?_⟩; have HO267 := aM (Kd.R_lower (Kd.R_new' (Kd.R_new' ho0 (Kd.R_lt (rl HO261))) (Kd.R_lt (rl HO264))) (below_size (bl))); replace HO261 := aM (rE (rl HO261) (Kd.R_base ho0) hb); replace HO264 := aM (rE (rl HO264) (Kd.R_base ho0) hb); replace HB := aM (bS (bl) hb); (try clear hb); (try clear hb2); (try clear hk); (try clear hi); (try clear ho0); obtain ⟨Ao13, co13, eo13⟩ := Kd.R_slice HO267.out; subst eo13) | ((with_reducible refine gate_callee (f := 10) rfl ?_); refine goesL_ (some 18) rfl rfl Try.func10 (by kernel_rfl) rfl #[.slice Ao13 t265.length co13, .slice Ao11 t259.length co11] rfl (by (try simp only [List.map_toArray, List.map_cons, List.map_nil]); first | done | rfl | (simp only [List.length_drop, List.length_take]; rfl)) ?_; (with_reducible refine (mapmakerref20_Same.calls k _ _ t265 _ _ t259 true _ ?side1 ?side2 ?side3 ?side4 A7.out).mono ?_); (case side1 => repeat (first | exact (rR HO267.out).2.2 | (with_reducible refine cA ?_ _) | (with_reducible refine cN ?_ _) | (with_reducible refine cD ?_))); (case side2 => exact (rR HO267.out).2.1); (case side3 => repeat (first | exact (rR HO261.out).2.2 | (with_reducible refine cA ?_ _) | (with_reducible refine cN ?_ _) | (with_reducible refine cD ?_))); (case side4 => exact (rR HO261.out).2.1); rintro e w' ⟨rfl, ⟨nd, rfl⟩⟩; refine ⟨_, rfl, ?_⟩))
   go_loopg [5] k (fun kq v5 w' => ∃ (x5_1 : Int), v5 = .int .i64 x5_1 ∧ Aside0 (mapmakerlaw20_NodingIdempotent.l0 kq t259 t262 x5_1 = some r) ∧ Aside0 (kq ≤ k) ∧ Aside0 (Kd.R k35 35 w' w.heap.size (fun k_ => some k_ ≠ (v263 : Value).ownBlock) (.slice Ao11 t259.length co11) t259) ∧ Aside0 (Kd.R k35 35 w' w.heap.size (fun k_ => some k_ ≠ ((.slice Ao11 t259.length co11) : Value).ownBlock) v263 t262) ∧ Aside0 (Below w.heap.size w w'))
   case atStart => exact ⟨(0), (by first | rfl | (simp; done) | (simp [*]; done)), H', ⟨Nat.le_refl _⟩, ⟨by (with_reducible repeat (first | apply rA | apply rN | apply rD)); exact rM HO261.out (fun _ hk => hk.1.2)⟩, ⟨by (with_reducible repeat (first | apply rA | apply rN | apply rD)); exact rM HO264.out (fun _ hk => hk.1.2)⟩, ⟨bl⟩⟩
   case round =>
    clear H'
    try clear c1
    try clear p2
    try clear c3
    try clear c6
    try clear c8
    try clear c10
    try clear c13
    obtain ⟨x5_1, rfl, HA, HK1, HO_3, HO_4, HB⟩ := hrel
    cases gk with
    | zero => exact absurd HA.out (by simp [mapmakerlaw20_NodingIdempotent.l0])
    | succ k1 =>
     have H := HA.out
     clear HA
     simp only [mapmakerlaw20_NodingIdempotent.l0] at H
     by_cases c14 : x5_1 < (t259.length : Int)
     ·rw [if_pos c14] at H
      have c14b0 : decide (x5_1 < (t259.length : Int)) = true := decide_eq_true c14
      clear c14
      have HC15 := aM H
      clear H
      go_upto_region 9 with (fail)
      go_cut [62] (fun v62 wc => ∃ (kq : Nat) (x62_14 : Bool), v62 = .bool x62_14 ∧ Aside0 (mapmakerlaw20_NodingIdempotent.j1 kq t259 t262 x5_1 x62_14 = some r) ∧ Aside0 (kq ≤ k1) ∧ Aside0 (Kd.R k35 35 wc w.heap.size (fun k_ => some k_ ≠ (v263 : Value).ownBlock) (.slice Ao11 t259.length co11) t259) ∧ Aside0 (Kd.R k35 35 wc w.heap.size (fun k_ => some k_ ≠ ((.slice Ao11 t259.length co11) : Value).ownBlock) v263 t262) ∧ Aside0 (Below w.heap.size w wc))
      case first =>
       have H := HC15.out
       clear HC15
       by_cases c16 : 0 ≤ x5_1
       ·rw [if_pos c16] at H
        have c16b0 : decide (0 ≤ x5_1) = true := decide_eq_true c16
        clear c16
        (first | rw [c16b0] | (simp only [i64_w, i32_w]; rw [c16b0]) | skip)
        replace H := Option.bind_eq_some_iff.mp H
        obtain ⟨t271, A170, H⟩ := H
        try dsimp only at H
        have A17 := aM A170
        clear A170
        by_cases c18 : t271 = true
        ·subst c18
         have H1 : ((mapmakerlaw20_end.f k1 t262 ((rd_T35 t259 x5_1).f1.f0) ((rd_T35 t259 x5_1).f1.f1)).bind fun t273 => (if t273 = true then ((mapmakerref09_Less.f ((rd_T35 t259 x5_1).f0.f0) ((rd_T35 t259 x5_1).f0.f1) ((rd_T35 t259 x5_1).f0.f0) ((rd_T35 t259 x5_1).f0.f1) ((rd_T35 t259 x5_1).f0.f0) ((rd_T35 t259 x5_1).f0.f1) ((rd_T35 t259 x5_1).f1.f0) ((rd_T35 t259 x5_1).f1.f1)).bind fun t277 => (mapmakerlaw20_NodingIdempotent.j1 k1 t259 t262 x5_1 (!t277))) else (mapmakerlaw20_NodingIdempotent.j1 k1 t259 t262 x5_1 true))) = some r := by rw [if_pos rfl] at H; exact H
         clear H
         have H := H1
         clear H1
         replace H := Option.bind_eq_some_iff.mp H
         obtain ⟨t273, A190, H⟩ := H
         try dsimp only at H
         have A19 := aM A190
         clear A190
         by_cases c20 : t273 = true
         ·subst c20
          have H1 : ((mapmakerref09_Less.f ((rd_T35 t259 x5_1).f0.f0) ((rd_T35 t259 x5_1).f0.f1) ((rd_T35 t259 x5_1).f0.f0) ((rd_T35 t259 x5_1).f0.f1) ((rd_T35 t259 x5_1).f0.f0) ((rd_T35 t259 x5_1).f0.f1) ((rd_T35 t259 x5_1).f1.f0) ((rd_T35 t259 x5_1).f1.f1)).bind fun t277 => (mapmakerlaw20_NodingIdempotent.j1 k1 t259 t262 x5_1 (!t277))) = some r := by rw [if_pos rfl] at H; exact H
          clear H
          have H := H1
          clear H1
          replace H := Option.bind_eq_some_iff.mp H
          obtain ⟨t277, A210, H⟩ := H
          try dsimp only at H
          have A21 := aM A210
          clear A210
          have H' := aM H
          clear H
          try go_wp2
          replace HO_3 := aM (rD HO_3.out)
          replace HO_4 := aM (rD HO_4.out)
          replace HB := aM (bD HB.out)
          have p270 : 0 ≤ (x5_1 : Int) := of_decide_eq_true (by first | (with_reducible assumption) | assumption)
          have q270 : x5_1 < (t259.length : Int) := of_decide_eq_true (by first | (with_reducible assumption) | assumption)
          obtain ⟨ad270, e270, hx270_0, hx270_1, hx270_2, hx270_3⟩ := at_T35 (rR HO_3.out).2.2 x5_1 p270 q270
          cases e270
          replace p270 := eq_true p270
          replace q270 := eq_true q270
          obtain ⟨Ao23, co23, eo23⟩ := Kd.R_slice HO_4.out
          (first | subst eo23 | (injection eo23 with f1_ f2_ f3_; have f4_ := f1_.symm; have f5_ := f3_.symm; clear f1_ f2_ f3_; subst f4_; subst f5_))
          have p272 : 0 ≤ (x5_1 : Int) := of_decide_eq_true (by first | (with_reducible assumption) | assumption)
          have q272 : x5_1 < (t259.length : Int) := of_decide_eq_true (by first | (with_reducible assumption) | assumption)
          obtain ⟨ad272, e272, hx272_0, hx272_1, hx272_2, hx272_3⟩ := at_T35 (rR HO_3.out).2.2 x5_1 p272 q272
          obtain rfl : ad270 = ad272 := (by injection e272)
          replace p272 := eq_true p272
          replace q272 := eq_true q272
          have p274 : 0 ≤ (x5_1 : Int) := of_decide_eq_true (by first | (with_reducible assumption) | assumption)
          have q274 : x5_1 < (t259.length : Int) := of_decide_eq_true (by first | (with_reducible assumption) | assumption)
          obtain ⟨ad274, e274, hx274_0, hx274_1, hx274_2, hx274_3⟩ := at_T35 (rR HO_3.out).2.2 x5_1 p274 q274
          obtain rfl : ad270 = ad274 := (by injection e274)
          replace p274 := eq_true p274
          replace q274 := eq_true q274
          have p275 : 0 ≤ (x5_1 : Int) := of_decide_eq_true (by first | (with_reducible assumption) | assumption)
          have q275 : x5_1 < (t259.length : Int) := of_decide_eq_true (by first | (with_reducible assumption) | assumption)
          obtain ⟨ad275, e275, hx275_0, hx275_1, hx275_2, hx275_3⟩ := at_T35 (rR HO_3.out).2.2 x5_1 p275 q275
          obtain rfl : ad270 = ad275 := (by injection e275)
          replace p275 := eq_true p275
          replace q275 := eq_true q275
          have p276 : 0 ≤ (x5_1 : Int) := of_decide_eq_true (by first | (with_reducible assumption) | assumption)
          have q276 : x5_1 < (t259.length : Int) := of_decide_eq_true (by first | (with_reducible assumption) | assumption)
          obtain ⟨ad276, e276, hx276_0, hx276_1, hx276_2, hx276_3⟩ := at_T35 (rR HO_3.out).2.2 x5_1 p276 q276
          obtain rfl : ad270 = ad276 := (by injection e276)
          replace p276 := eq_true p276
          replace q276 := eq_true q276
          refine start_ (n := 37) (S := fun w' => w'.cell? (ad270.add ((x5_1).toNat * 4)) = some (.int .i64 ((rd_T35 t259 x5_1).f0.f0)) ∧ w'.cell? ⟨(ad270.add ((x5_1).toNat * 4)).block, (ad270.add ((x5_1).toNat * 4)).off + 1, none⟩ = some (.int .i64 ((rd_T35 t259 x5_1).f0.f1)) ∧ w'.cell? ⟨(ad270.add ((x5_1).toNat * 4)).block, (ad270.add ((x5_1).toNat * 4)).off + 2, none⟩ = some (.int .i64 ((rd_T35 t259 x5_1).f1.f0)) ∧ w'.cell? ⟨(ad270.add ((x5_1).toNat * 4)).block, (ad270.add ((x5_1).toNat * 4)).off + 3, none⟩ = some (.int .i64 ((rd_T35 t259 x5_1).f1.f1)) ∧ w'.cell? (ad270.add ((x5_1).toNat * 4)) = some (.int .i64 ((rd_T35 t259 x5_1).f0.f0)) ∧ w'.cell? ⟨(ad270.add ((x5_1).toNat * 4)).block, (ad270.add ((x5_1).toNat * 4)).off + 1, none⟩ = some (.int .i64 ((rd_T35 t259 x5_1).f0.f1)) ∧ w'.cell? ⟨(ad270.add ((x5_1).toNat * 4)).block, (ad270.add ((x5_1).toNat * 4)).off + 2, none⟩ = some (.int .i64 ((rd_T35 t259 x5_1).f1.f0)) ∧ w'.cell? ⟨(ad270.add ((x5_1).toNat * 4)).block, (ad270.add ((x5_1).toNat * 4)).off + 3, none⟩ = some (.int .i64 ((rd_T35 t259 x5_1).f1.f1)) ∧ w'.cell? (ad270.add ((x5_1).toNat * 4)) = some (.int .i64 ((rd_T35 t259 x5_1).f0.f0)) ∧ w'.cell? ⟨(ad270.add ((x5_1).toNat * 4)).block, (ad270.add ((x5_1).toNat * 4)).off + 1, none⟩ = some (.int .i64 ((rd_T35 t259 x5_1).f0.f1)) ∧ w'.cell? ⟨(ad270.add ((x5_1).toNat * 4)).block, (ad270.add ((x5_1).toNat * 4)).off + 2, none⟩ = some (.int .i64 ((rd_T35 t259 x5_1).f1.f0)) ∧ w'.cell? ⟨(ad270.add ((x5_1).toNat * 4)).block, (ad270.add ((x5_1).toNat * 4)).off + 3, none⟩ = some (.int .i64 ((rd_T35 t259 x5_1).f1.f1)) ∧ w'.cell? (ad270.add ((x5_1).toNat * 4)) = some (.int .i64 ((rd_T35 t259 x5_1).f0.f0)) ∧ w'.cell? ⟨(ad270.add ((x5_1).toNat * 4)).block, (ad270.add ((x5_1).toNat * 4)).off + 1, none⟩ = some (.int .i64 ((rd_T35 t259 x5_1).f0.f1)) ∧ w'.cell? ⟨(ad270.add ((x5_1).toNat * 4)).block, (ad270.add ((x5_1).toNat * 4)).off + 2, none⟩ = some (.int .i64 ((rd_T35 t259 x5_1).f1.f0)) ∧ w'.cell? ⟨(ad270.add ((x5_1).toNat * 4)).block, (ad270.add ((x5_1).toNat * 4)).off + 3, none⟩ = some (.int .i64 ((rd_T35 t259 x5_1).f1.f1)) ∧ w'.cell? (ad270.add ((x5_1).toNat * 4)) = some (.int .i64 ((rd_T35 t259 x5_1).f0.f0)) ∧ w'.cell? ⟨(ad270.add ((x5_1).toNat * 4)).block, (ad270.add ((x5_1).toNat * 4)).off + 1, none⟩ = some (.int .i64 ((rd_T35 t259 x5_1).f0.f1)) ∧ w'.cell? ⟨(ad270.add ((x5_1).toNat * 4)).block, (ad270.add ((x5_1).toNat * 4)).off + 2, none⟩ = some (.int .i64 ((rd_T35 t259 x5_1).f1.f0)) ∧ w'.cell? ⟨(ad270.add ((x5_1).toNat * 4)).block, (ad270.add ((x5_1).toNat * 4)).off + 3, none⟩ = some (.int .i64 ((rd_T35 t259 x5_1).f1.f1))) (ds := []) #[false, false, false, false, false, false, false, false, false, false, false, false, false, false, false, false, false, false, false, false, false, false, false, false, false, false, false, false, false, false, false, false, false, false, false, false, false] (by kernel_rfl) rfl rfl ⟨hx270_0, hx270_1, hx270_2, hx270_3, hx272_0, hx272_1, hx272_2, hx272_3, hx274_0, hx274_1, hx274_2, hx274_3, hx275_0, hx275_1, hx275_2, hx275_3, hx276_0, hx276_1, hx276_2, hx276_3⟩ (fun hHeld => ?_); refine with_tabW mapmakerlaw20_NodingIdempotent.tab9 mapmakerlaw20_NodingIdempotent.bits9 (fun HT_ HW_ => ?_)
          generalize wr.drew = w22 at HO_3 HO_4 HB hx270_0 hx270_1 hx270_2 hx270_3 hx272_0 hx272_1 hx272_2 hx272_3 hx274_0 hx274_1 hx274_2 hx274_3 hx275_0 hx275_1 hx275_2 hx275_3 hx276_0 hx276_1 hx276_2 hx276_3 hHeld ⊢
          refine pure_ (i := 0) (N := some 26) (v := ?_) (a' := ?_) (ba 37 1) rfl rfl (any_of HT_.out (by kernel_rfl)) (fun _ _ _ h => h) (Or.inl ⟨by rfl, ?_⟩) ?_ ?_
          rotate_left
          ·intro w'
           go_simp
           with_reducible rfl
          rotate_left
          ·simp only [Act.put, sA, sB, sC, i64_w, i32_w]
           rfl
          refine pure_ (i := 1) (N := some 27) (v := ?_) (a' := ?_) (ba 37 3) rfl rfl (any_of HT_.out (by kernel_rfl)) (fun _ _ _ h => h) (Or.inl ⟨by rfl, ?_⟩) ?_ ?_
          rotate_left
          ·intro w'
           go_simp
           with_reducible rfl
          rotate_left
          ·simp only [Act.put, sA, sB, sC, i64_w, i32_w]
           rfl
          refine pure_ (i := 2) (N := some 28) (v := ?_) (a' := ?_) (ba 37 7) rfl rfl (any_of HT_.out (by kernel_rfl)) (fun _ _ _ h => h) (Or.inl ⟨by rfl, ?_⟩) ?_ ?_
          rotate_left
          ·intro w'
           go_simp
           with_reducible rfl
          rotate_left
          ·simp only [Act.put, sA, sB, sC, i64_w, i32_w]
           rfl
          refine pure_ (i := 3) (N := some 29) (v := ?_) (a' := ?_) (ba 37 15) rfl rfl (any_of HT_.out (by kernel_rfl)) (fun _ _ _ h => h) (Or.inl ⟨by rfl, ?_⟩) ?_ ?_
          rotate_left
          ·intro w'
           go_simp
           with_reducible rfl
          rotate_left
          ·simp only [Act.put, sA, sB, sC, i64_w, i32_w]
           rfl
          refine pure_ (i := 4) (N := some 30) (v := ?_) (a' := ?_) (ba 37 31) rfl rfl (any_of HT_.out (by kernel_rfl)) (fun _ _ _ h => h) (Or.inl ⟨by rfl, ?_⟩) ?_ ?_
          rotate_left
          ·intro w'
           go_simp
           with_reducible rfl
          rotate_left
          ·simp only [Act.put, sA, sB, sC, i64_w, i32_w]
           rfl
          refine take_ (i := 5) (N := some 31) (v := ?_) (a' := ?_) (ba 37 63) rfl rfl (take_ofW HT_.out HW_.out (by kernel_rfl)) (fun _ _ _ h => h) (Or.inl ⟨by rfl, ?_⟩) hHeld ?_ ?_
          rotate_left
          ·rintro w' ⟨s0, s1, s2, s3, s4, s5, s6, s7, s8, s9, s10, s11, s12, s13, s14, s15, s16, s17, s18, s19⟩
           go_simp
           with_reducible rfl
          rotate_left
          ·simp only [Act.put, sA, sB, sC, i64_w, i32_w]
           rfl
          refine one_ (i := 6) (N := some 32) (ba 37 127) rfl rfl (one_of HT_.out (by kernel_rfl)) (by decide) (fun K hK => ?_)
          refine goes_ Try.func25 (by kernel_rfl) rfl #[.slice Ao23 t262.length co23, .agg #[.int .i64 ((rd_T35 t259 x5_1).f0.f0), .int .i64 ((rd_T35 t259 x5_1).f0.f1)]] (by rfl) rfl rfl (by (try simp only [List.map_toArray, List.map_cons, List.map_nil]); first | done | rfl | (simp only [List.length_drop, List.length_take]; rfl)) ?_
          with_reducible refine (mapmakerlaw20_end.calls k1 _ _ t262 ((rd_T35 t259 x5_1).f0.f0) ((rd_T35 t259 x5_1).f0.f1) true _ ?side1 ?side2 A17.out).mono ?_
          (case side1 => repeat (first | exact (rR HO_4.out).2.2 | (with_reducible refine cA ?_ _) | (with_reducible refine cN ?_ _) | (with_reducible refine cD ?_)))
          (case side2 => exact (rR HO_4.out).2.1)
          rintro e w24 ⟨rfl, hb⟩
          obtain ⟨q0, q1, q2, q3, q4, q5, q6, q7, q8, q9, q10, q11, q12, q13, q14, q15, q16, q17, q18, q19⟩ := hHeld
          have HS_ := And.intro (hs hb q0) <| And.intro (hs hb q1) <| And.intro (hs hb q2) <| And.intro (hs hb q3) <| And.intro (hs hb q4) <| And.intro (hs hb q5) <| And.intro (hs hb q6) <| And.intro (hs hb q7) <| And.intro (hs hb q8) <| And.intro (hs hb q9) <| And.intro (hs hb q10) <| And.intro (hs hb q11) <| And.intro (hs hb q12) <| And.intro (hs hb q13) <| And.intro (hs hb q14) <| And.intro (hs hb q15) <| And.intro (hs hb q16) <| And.intro (hs hb q17) <| And.intro (hs hb q18) <| hs hb q19
          refine ⟨_, rfl, ?_⟩
          replace HO_3 := aM (rB (rl HO_3) hb)
          replace HO_4 := aM (rB (rl HO_4) hb)
          replace HB := aM (bS (bl) hb)
          (try clear hb)
          (try clear hb2)
          (try clear hk)
          (try clear hi)
          refine hK.out _ _ HS_ (fun hHeld => ?_)
          clear hK K
          refine norm_ (a' := ?_) ?_ ?_
          rotate_left
          ·show Act.put _ (some 32) _ = _
           simp only [Act.put, sA, sB, sC, i64_w, i32_w]
           rfl
          refine pure_ (i := 7) (N := some 33) (v := ?_) (a' := ?_) (ba 37 255) rfl rfl (any_of HT_.out (by kernel_rfl)) (fun _ _ _ h => h) (Or.inl ⟨by rfl, ?_⟩) ?_ ?_
          rotate_left
          ·intro w'
           go_simp
           with_reducible rfl
          rotate_left
          ·simp only [Act.put, sA, sB, sC, i64_w, i32_w]
           rfl
          refine pure_ (i := 8) (N := some 34) (v := ?_) (a' := ?_) (ba 37 511) rfl rfl (any_of HT_.out (by kernel_rfl)) (fun _ _ _ h => h) (Or.inl ⟨by rfl, ?_⟩) ?_ ?_
          rotate_left
          ·intro w'
           go_simp
           with_reducible rfl
          rotate_left
          ·simp only [Act.put, sA, sB, sC, i64_w, i32_w]
           rfl
          refine pure_ (i := 9) (N := some 35) (v := ?_) (a' := ?_) (ba 37 1023) rfl rfl (any_of HT_.out (by kernel_rfl)) (fun _ _ _ h => h) (Or.inl ⟨by rfl, ?_⟩) ?_ ?_
          rotate_left
          ·intro w'
           go_simp
           with_reducible rfl
          rotate_left
          ·simp only [Act.put, sA, sB, sC, i64_w, i32_w]
           rfl
          refine pure_ (i := 10) (N := some 36) (v := ?_) (a' := ?_) (ba 37 2047) rfl rfl (any_of HT_.out (by kernel_rfl)) (fun _ _ _ h => h) (Or.inl ⟨by rfl, ?_⟩) ?_ ?_
          rotate_left
          ·intro w'
           go_simp
           with_reducible rfl
          rotate_left
          ·simp only [Act.put, sA, sB, sC, i64_w, i32_w]
           rfl
          refine pure_ (i := 11) (N := some 37) (v := ?_) (a' := ?_) (ba 37 4095) rfl rfl (any_of HT_.out (by kernel_rfl)) (fun _ _ _ h => h) (Or.inl ⟨by rfl, ?_⟩) ?_ ?_
          rotate_left
          ·intro w'
           go_simp
           with_reducible rfl
          rotate_left
          ·simp only [Act.put, sA, sB, sC, i64_w, i32_w]
           rfl
          refine pure_ (i := 12) (N := some 38) (v := ?_) (a' := ?_) (ba 37 8191) rfl rfl (any_of HT_.out (by kernel_rfl)) (fun _ _ _ h => h) (Or.inl ⟨by rfl, ?_⟩) ?_ ?_
          rotate_left
          ·intro w'
           go_simp
           with_reducible rfl
          rotate_left
          ·simp only [Act.put, sA, sB, sC, i64_w, i32_w]
           rfl
          refine pure_ (i := 13) (N := some 39) (v := ?_) (a' := ?_) (ba 37 16383) rfl rfl (any_of HT_.out (by kernel_rfl)) (fun _ _ _ h => h) (Or.inl ⟨by rfl, ?_⟩) ?_ ?_
          rotate_left
          ·intro w'
           go_simp
           with_reducible rfl
          rotate_left
          ·simp only [Act.put, sA, sB, sC, i64_w, i32_w]
           rfl
          refine take_ (i := 14) (N := some 40) (v := ?_) (a' := ?_) (ba 37 32767) rfl rfl (take_ofW HT_.out HW_.out (by kernel_rfl)) (fun _ _ _ h => h) (Or.inl ⟨by rfl, ?_⟩) hHeld ?_ ?_
          rotate_left
          ·rintro w' ⟨s0, s1, s2, s3, s4, s5, s6, s7, s8, s9, s10, s11, s12, s13, s14, s15, s16, s17, s18, s19⟩
           go_simp
           with_reducible rfl
          rotate_left
          ·simp only [Act.put, sA, sB, sC, i64_w, i32_w]
           rfl
          refine one_ (i := 15) (N := some 41) (ba 37 65535) rfl rfl (one_of HT_.out (by kernel_rfl)) (by decide) (fun K hK => ?_)
          refine goes_ Try.func25 (by kernel_rfl) rfl #[.slice Ao23 t262.length co23, .agg #[.int .i64 ((rd_T35 t259 x5_1).f1.f0), .int .i64 ((rd_T35 t259 x5_1).f1.f1)]] (by rfl) rfl rfl (by (try simp only [List.map_toArray, List.map_cons, List.map_nil]); first | done | rfl | (simp only [List.length_drop, List.length_take]; rfl)) ?_
          with_reducible refine (mapmakerlaw20_end.calls k1 _ _ t262 ((rd_T35 t259 x5_1).f1.f0) ((rd_T35 t259 x5_1).f1.f1) true _ ?side1 ?side2 A19.out).mono ?_
          (case side1 => repeat (first | exact (rR HO_4.out).2.2 | (with_reducible refine cA ?_ _) | (with_reducible refine cN ?_ _) | (with_reducible refine cD ?_)))
          (case side2 => exact (rR HO_4.out).2.1)
          rintro e w25 ⟨rfl, hb⟩
          obtain ⟨q0, q1, q2, q3, q4, q5, q6, q7, q8, q9, q10, q11, q12, q13, q14, q15, q16, q17, q18, q19⟩ := hHeld
          have HS_ := And.intro (hs hb q0) <| And.intro (hs hb q1) <| And.intro (hs hb q2) <| And.intro (hs hb q3) <| And.intro (hs hb q4) <| And.intro (hs hb q5) <| And.intro (hs hb q6) <| And.intro (hs hb q7) <| And.intro (hs hb q8) <| And.intro (hs hb q9) <| And.intro (hs hb q10) <| And.intro (hs hb q11) <| And.intro (hs hb q12) <| And.intro (hs hb q13) <| And.intro (hs hb q14) <| And.intro (hs hb q15) <| And.intro (hs hb q16) <| And.intro (hs hb q17) <| And.intro (hs hb q18) <| hs hb q19
          refine ⟨_, rfl, ?_⟩
          replace HO_3 := aM (rB (rl HO_3) hb)
          replace HO_4 := aM (rB (rl HO_4) hb)
          replace HB := aM (bS (bl) hb)
          (try clear hb)
          (try clear hb2)
          (try clear hk)
          (try clear hi)
          refine hK.out _ _ HS_ (fun hHeld => ?_)
          clear hK K
          refine norm_ (a' := ?_) ?_ ?_
          rotate_left
          ·show Act.put _ (some 41) _ = _
           simp only [Act.put, sA, sB, sC, i64_w, i32_w]
           rfl
          refine pure_ (i := 16) (N := some 42) (v := ?_) (a' := ?_) (ba 37 131071) rfl rfl (any_of HT_.out (by kernel_rfl)) (fun _ _ _ h => h) (Or.inl ⟨by rfl, ?_⟩) ?_ ?_
          rotate_left
          ·intro w'
           go_simp
           with_reducible rfl
          rotate_left
          ·simp only [Act.put, sA, sB, sC, i64_w, i32_w]
           rfl
          refine pure_ (i := 17) (N := some 43) (v := ?_) (a' := ?_) (ba 37 262143) rfl rfl (any_of HT_.out (by kernel_rfl)) (fun _ _ _ h => h) (Or.inl ⟨by rfl, ?_⟩) ?_ ?_
          rotate_left
          ·intro w'
           go_simp
           with_reducible rfl
          rotate_left
          ·simp only [Act.put, sA, sB, sC, i64_w, i32_w]
           rfl
          refine pure_ (i := 18) (N := some 44) (v := ?_) (a' := ?_) (ba 37 524287) rfl rfl (any_of HT_.out (by kernel_rfl)) (fun _ _ _ h => h) (Or.inl ⟨by rfl, ?_⟩) ?_ ?_
          rotate_left
          ·intro w'
           go_simp
           with_reducible rfl
          rotate_left
          ·simp only [Act.put, sA, sB, sC, i64_w, i32_w]
           rfl
          refine pure_ (i := 19) (N := some 45) (v := ?_) (a' := ?_) (ba 37 1048575) rfl rfl (any_of HT_.out (by kernel_rfl)) (fun _ _ _ h => h) (Or.inl ⟨by rfl, ?_⟩) ?_ ?_
          rotate_left
          ·intro w'
           go_simp
           with_reducible rfl
          rotate_left
          ·simp only [Act.put, sA, sB, sC, i64_w, i32_w]
           rfl
          refine pure_ (i := 20) (N := some 46) (v := ?_) (a' := ?_) (ba 37 2097151) rfl rfl (any_of HT_.out (by kernel_rfl)) (fun _ _ _ h => h) (Or.inl ⟨by rfl, ?_⟩) ?_ ?_
          rotate_left
          ·intro w'
           go_simp
           with_reducible rfl
          rotate_left
          ·simp only [Act.put, sA, sB, sC, i64_w, i32_w]
           rfl
          refine pure_ (i := 21) (N := some 47) (v := ?_) (a' := ?_) (ba 37 4194303) rfl rfl (any_of HT_.out (by kernel_rfl)) (fun _ _ _ h => h) (Or.inl ⟨by rfl, ?_⟩) ?_ ?_
          rotate_left
          ·intro w'
           go_simp
           with_reducible rfl
          rotate_left
          ·simp only [Act.put, sA, sB, sC, i64_w, i32_w]
           rfl
          refine pure_ (i := 22) (N := some 48) (v := ?_) (a' := ?_) (ba 37 8388607) rfl rfl (any_of HT_.out (by kernel_rfl)) (fun _ _ _ h => h) (Or.inl ⟨by rfl, ?_⟩) ?_ ?_
          rotate_left
          ·intro w'
           go_simp
           with_reducible rfl
          rotate_left
          ·simp only [Act.put, sA, sB, sC, i64_w, i32_w]
           rfl
          refine pure_ (i := 24) (N := some 50) (v := ?_) (a' := ?_) (ba 37 25165823) rfl rfl (any_of HT_.out (by kernel_rfl)) (fun _ _ _ h => h) (Or.inl ⟨by rfl, ?_⟩) ?_ ?_
          rotate_left
          ·intro w'
           go_simp
           with_reducible rfl
          rotate_left
          ·simp only [Act.put, sA, sB, sC, i64_w, i32_w]
           rfl
          refine pure_ (i := 25) (N := some 51) (v := ?_) (a' := ?_) (ba 37 58720255) rfl rfl (any_of HT_.out (by kernel_rfl)) (fun _ _ _ h => h) (Or.inl ⟨by rfl, ?_⟩) ?_ ?_
          rotate_left
          ·intro w'
           go_simp
           with_reducible rfl
          rotate_left
          ·simp only [Act.put, sA, sB, sC, i64_w, i32_w]
           rfl
          refine pure_ (i := 26) (N := some 52) (v := ?_) (a' := ?_) (ba 37 125829119) rfl rfl (any_of HT_.out (by kernel_rfl)) (fun _ _ _ h => h) (Or.inl ⟨by rfl, ?_⟩) ?_ ?_
          rotate_left
          ·intro w'
           go_simp
           with_reducible rfl
          rotate_left
          ·simp only [Act.put, sA, sB, sC, i64_w, i32_w]
           rfl
          refine pure_ (i := 27) (N := some 53) (v := ?_) (a' := ?_) (ba 37 260046847) rfl rfl (any_of HT_.out (by kernel_rfl)) (fun _ _ _ h => h) (Or.inl ⟨by rfl, ?_⟩) ?_ ?_
          rotate_left
          ·intro w'
           go_simp
           with_reducible rfl
          rotate_left
          ·simp only [Act.put, sA, sB, sC, i64_w, i32_w]
           rfl
          refine pure_ (i := 30) (N := some 56) (v := ?_) (a' := ?_) (ba 37 1333788671) rfl rfl (any_of HT_.out (by kernel_rfl)) (fun _ _ _ h => h) (Or.inl ⟨by rfl, ?_⟩) ?_ ?_
          rotate_left
          ·intro w'
           go_simp
           with_reducible rfl
          rotate_left
          ·simp only [Act.put, sA, sB, sC, i64_w, i32_w]
           rfl
          refine pure_ (i := 31) (N := some 57) (v := ?_) (a' := ?_) (ba 37 3481272319) rfl rfl (any_of HT_.out (by kernel_rfl)) (fun _ _ _ h => h) (Or.inl ⟨by rfl, ?_⟩) ?_ ?_
          rotate_left
          ·intro w'
           go_simp
           with_reducible rfl
          rotate_left
          ·simp only [Act.put, sA, sB, sC, i64_w, i32_w]
           rfl
          refine pure_ (i := 32) (N := some 58) (v := ?_) (a' := ?_) (ba 37 7776239615) rfl rfl (any_of HT_.out (by kernel_rfl)) (fun _ _ _ h => h) (Or.inl ⟨by rfl, ?_⟩) ?_ ?_
          rotate_left
          ·intro w'
           go_simp
           with_reducible rfl
          rotate_left
          ·simp only [Act.put, sA, sB, sC, i64_w, i32_w]
           rfl
          refine take_ (i := 23) (N := some 49) (v := ?_) (a' := ?_) (ba 37 7784628223) rfl rfl (take_ofW HT_.out HW_.out (by kernel_rfl)) (fun _ _ _ h => h) (Or.inl ⟨by rfl, ?_⟩) hHeld ?_ ?_
          rotate_left
          ·rintro w' ⟨s0, s1, s2, s3, s4, s5, s6, s7, s8, s9, s10, s11, s12, s13, s14, s15, s16, s17, s18, s19⟩
           go_simp
           with_reducible rfl
          rotate_left
          ·simp only [Act.put, sA, sB, sC, i64_w, i32_w]
           rfl
          refine take_ (i := 28) (N := some 54) (v := ?_) (a' := ?_) (ba 37 8053063679) rfl rfl (take_ofW HT_.out HW_.out (by kernel_rfl)) (fun _ _ _ h => h) (Or.inl ⟨by rfl, ?_⟩) hHeld ?_ ?_
          rotate_left
          ·rintro w' ⟨s0, s1, s2, s3, s4, s5, s6, s7, s8, s9, s10, s11, s12, s13, s14, s15, s16, s17, s18, s19⟩
           go_simp
           with_reducible rfl
          rotate_left
          ·simp only [Act.put, sA, sB, sC, i64_w, i32_w]
           rfl
          refine pure_ (i := 29) (N := some 55) (v := ?_) (a' := ?_) (ba 37 8589934591) rfl rfl (any_of HT_.out (by kernel_rfl)) (fun _ _ _ h => h) (Or.inl ⟨by rfl, ?_⟩) ?_ ?_
          rotate_left
          ·intro w'
           go_simp
           with_reducible rfl
          rotate_left
          ·simp only [Act.put, sA, sB, sC, i64_w, i32_w]
           rfl
          refine take_ (i := 33) (N := some 59) (v := ?_) (a' := ?_) (ba 37 17179869183) rfl rfl (take_ofW HT_.out HW_.out (by kernel_rfl)) (fun _ _ _ h => h) (Or.inl ⟨by rfl, ?_⟩) hHeld ?_ ?_
          rotate_left
          ·rintro w' ⟨s0, s1, s2, s3, s4, s5, s6, s7, s8, s9, s10, s11, s12, s13, s14, s15, s16, s17, s18, s19⟩
           go_simp
           with_reducible rfl
          rotate_left
          ·simp only [Act.put, sA, sB, sC, i64_w, i32_w]
           rfl
          refine one_ (i := 34) (N := some 60) (ba 37 34359738367) rfl rfl (one_of HT_.out (by kernel_rfl)) (by decide) (fun K hK => ?_)
          refine goes_ Try.func26 (by kernel_rfl) rfl #[.agg #[.int .i64 ((rd_T35 t259 x5_1).f0.f0), .int .i64 ((rd_T35 t259 x5_1).f0.f1), .int .i64 ((rd_T35 t259 x5_1).f0.f0), .int .i64 ((rd_T35 t259 x5_1).f0.f1)], .agg #[.int .i64 ((rd_T35 t259 x5_1).f0.f0), .int .i64 ((rd_T35 t259 x5_1).f0.f1), .int .i64 ((rd_T35 t259 x5_1).f1.f0), .int .i64 ((rd_T35 t259 x5_1).f1.f1)]] (by rfl) rfl rfl (by (try simp only [List.map_toArray, List.map_cons, List.map_nil]); first | done | rfl | (simp only [List.length_drop, List.length_take]; rfl)) ?_
          with_reducible refine (mapmakerref09_Less.calls ((rd_T35 t259 x5_1).f0.f0) ((rd_T35 t259 x5_1).f0.f1) ((rd_T35 t259 x5_1).f0.f0) ((rd_T35 t259 x5_1).f0.f1) ((rd_T35 t259 x5_1).f0.f0) ((rd_T35 t259 x5_1).f0.f1) ((rd_T35 t259 x5_1).f1.f0) ((rd_T35 t259 x5_1).f1.f1) t277 _ A21.out).mono ?_
          rintro e w26 ⟨rfl, hb⟩
          obtain ⟨q0, q1, q2, q3, q4, q5, q6, q7, q8, q9, q10, q11, q12, q13, q14, q15, q16, q17, q18, q19⟩ := hHeld
          have HS_ := And.intro (hs hb q0) <| And.intro (hs hb q1) <| And.intro (hs hb q2) <| And.intro (hs hb q3) <| And.intro (hs hb q4) <| And.intro (hs hb q5) <| And.intro (hs hb q6) <| And.intro (hs hb q7) <| And.intro (hs hb q8) <| And.intro (hs hb q9) <| And.intro (hs hb q10) <| And.intro (hs hb q11) <| And.intro (hs hb q12) <| And.intro (hs hb q13) <| And.intro (hs hb q14) <| And.intro (hs hb q15) <| And.intro (hs hb q16) <| And.intro (hs hb q17) <| And.intro (hs hb q18) <| hs hb q19
          refine ⟨_, rfl, ?_⟩
          replace HO_3 := aM (rB (rl HO_3) hb)
          replace HO_4 := aM (rB (rl HO_4) hb)
          replace HB := aM (bS (bl) hb)
          (try clear hb)
          (try clear hb2)
          (try clear hk)
          (try clear hi)
          refine hK.out _ _ HS_ (fun hHeld => ?_)
          clear hK K
          refine norm_ (a' := ?_) ?_ ?_
          rotate_left
          ·show Act.put _ (some 60) _ = _
           simp only [Act.put, sA, sB, sC, i64_w, i32_w]
           rfl
          refine pure_ (i := 35) (N := some 61) (v := ?_) (a' := ?_) (ba 37 68719476735) rfl rfl (any_of HT_.out (by kernel_rfl)) (fun _ _ _ h => h) (Or.inl ⟨by rfl, ?_⟩) ?_ ?_
          rotate_left
          ·intro w'
           go_simp
           with_reducible rfl
          rotate_left
          ·simp only [Act.put, sA, sB, sC, i64_w, i32_w]
           rfl
          refine pure_ (i := 36) (N := some 62) (v := ?_) (a' := ?_) (ba 37 137438953471) rfl rfl (any_of HT_.out (by kernel_rfl)) (fun _ _ _ h => h) (Or.inl ⟨by rfl, ?_⟩) ?_ ?_
          rotate_left
          ·intro w'
           go_simp
           with_reducible rfl
          rotate_left
          ·simp only [Act.put, sA, sB, sC, i64_w, i32_w]
           rfl
          refine done_ (done_of HT_.out (by kernel_rfl)) ?_
          try go_wp2
          go_meet
          case rel => exact ⟨_, (!t277), (by first | rfl | (simp; done) | (simp [*]; done)), H', ⟨by have := HK1.out; first | omega | exact Nat.le_refl _⟩, ⟨by (with_reducible repeat (first | apply rA | apply rN | apply rD)); exact HO_3.out⟩, ⟨by (with_reducible repeat (first | apply rA | apply rN | apply rD)); exact HO_4.out⟩, ⟨bl⟩⟩
         ·replace c20 := Bool.eq_false_iff.mpr c20
          subst c20
          have H1 : (mapmakerlaw20_NodingIdempotent.j1 k1 t259 t262 x5_1 true) = some r := by rw [if_neg (show ¬ (false = true) by decide)] at H; exact H
          clear H
          have H := H1
          clear H1
          have H' := aM H
          clear H
          try go_wp2
          replace HO_3 := aM (rD HO_3.out)
          replace HO_4 := aM (rD HO_4.out)
          replace HB := aM (bD HB.out)
          have p270 : 0 ≤ (x5_1 : Int) := of_decide_eq_true (by first | (with_reducible assumption) | assumption)
          have q270 : x5_1 < (t259.length : Int) := of_decide_eq_true (by first | (with_reducible assumption) | assumption)
          obtain ⟨ad270, e270, hx270_0, hx270_1, hx270_2, hx270_3⟩ := at_T35 (rR HO_3.out).2.2 x5_1 p270 q270
          cases e270
          replace p270 := eq_true p270
          replace q270 := eq_true q270
          obtain ⟨Ao28, co28, eo28⟩ := Kd.R_slice HO_4.out
          (first | subst eo28 | (injection eo28 with f1_ f2_ f3_; have f4_ := f1_.symm; have f5_ := f3_.symm; clear f1_ f2_ f3_; subst f4_; subst f5_))
          have p272 : 0 ≤ (x5_1 : Int) := of_decide_eq_true (by first | (with_reducible assumption) | assumption)
          have q272 : x5_1 < (t259.length : Int) := of_decide_eq_true (by first | (with_reducible assumption) | assumption)
          obtain ⟨ad272, e272, hx272_0, hx272_1, hx272_2, hx272_3⟩ := at_T35 (rR HO_3.out).2.2 x5_1 p272 q272
          obtain rfl : ad270 = ad272 := (by injection e272)
          replace p272 := eq_true p272
          replace q272 := eq_true q272
          refine start_ (n := 37) (S := fun w' => w'.cell? (ad270.add ((x5_1).toNat * 4)) = some (.int .i64 ((rd_T35 t259 x5_1).f0.f0)) ∧ w'.cell? ⟨(ad270.add ((x5_1).toNat * 4)).block, (ad270.add ((x5_1).toNat * 4)).off + 1, none⟩ = some (.int .i64 ((rd_T35 t259 x5_1).f0.f1)) ∧ w'.cell? ⟨(ad270.add ((x5_1).toNat * 4)).block, (ad270.add ((x5_1).toNat * 4)).off + 2, none⟩ = some (.int .i64 ((rd_T35 t259 x5_1).f1.f0)) ∧ w'.cell? ⟨(ad270.add ((x5_1).toNat * 4)).block, (ad270.add ((x5_1).toNat * 4)).off + 3, none⟩ = some (.int .i64 ((rd_T35 t259 x5_1).f1.f1)) ∧ w'.cell? (ad270.add ((x5_1).toNat * 4)) = some (.int .i64 ((rd_T35 t259 x5_1).f0.f0)) ∧ w'.cell? ⟨(ad270.add ((x5_1).toNat * 4)).block, (ad270.add ((x5_1).toNat * 4)).off + 1, none⟩ = some (.int .i64 ((rd_T35 t259 x5_1).f0.f1)) ∧ w'.cell? ⟨(ad270.add ((x5_1).toNat * 4)).block, (ad270.add ((x5_1).toNat * 4)).off + 2, none⟩ = some (.int .i64 ((rd_T35 t259 x5_1).f1.f0)) ∧ w'.cell? ⟨(ad270.add ((x5_1).toNat * 4)).block, (ad270.add ((x5_1).toNat * 4)).off + 3, none⟩ = some (.int .i64 ((rd_T35 t259 x5_1).f1.f1))) (ds := []) #[false, false, false, false, false, false, false, false, false, false, false, false, false, false, false, false, false, false, false, false, false, false, false, false, false, false, false, false, false, false, false, false, false, false, false, false, false] (by kernel_rfl) rfl rfl ⟨hx270_0, hx270_1, hx270_2, hx270_3, hx272_0, hx272_1, hx272_2, hx272_3⟩ (fun hHeld => ?_); refine with_tabW mapmakerlaw20_NodingIdempotent.tab9 mapmakerlaw20_NodingIdempotent.bits9 (fun HT_ HW_ => ?_)
          generalize wr.drew = w27 at HO_3 HO_4 HB hx270_0 hx270_1 hx270_2 hx270_3 hx272_0 hx272_1 hx272_2 hx272_3 hHeld ⊢
          refine pure_ (i := 0) (N := some 26) (v := ?_) (a' := ?_) (ba 37 1) rfl rfl (any_of HT_.out (by kernel_rfl)) (fun _ _ _ h => h) (Or.inl ⟨by rfl, ?_⟩) ?_ ?_
          rotate_left
          ·intro w'
           go_simp
           with_reducible rfl
          rotate_left
          ·simp only [Act.put, sA, sB, sC, i64_w, i32_w]
           rfl
          refine pure_ (i := 1) (N := some 27) (v := ?_) (a' := ?_) (ba 37 3) rfl rfl (any_of HT_.out (by kernel_rfl)) (fun _ _ _ h => h) (Or.inl ⟨by rfl, ?_⟩) ?_ ?_
          rotate_left
          ·intro w'
           go_simp
           with_reducible rfl
          rotate_left
          ·simp only [Act.put, sA, sB, sC, i64_w, i32_w]
           rfl
          refine pure_ (i := 2) (N := some 28) (v := ?_) (a' := ?_) (ba 37 7) rfl rfl (any_of HT_.out (by kernel_rfl)) (fun _ _ _ h => h) (Or.inl ⟨by rfl, ?_⟩) ?_ ?_
          rotate_left
          ·intro w'
           go_simp
           with_reducible rfl
          rotate_left
          ·simp only [Act.put, sA, sB, sC, i64_w, i32_w]
           rfl
          refine pure_ (i := 3) (N := some 29) (v := ?_) (a' := ?_) (ba 37 15) rfl rfl (any_of HT_.out (by kernel_rfl)) (fun _ _ _ h => h) (Or.inl ⟨by rfl, ?_⟩) ?_ ?_
          rotate_left
          ·intro w'
           go_simp
           with_reducible rfl
          rotate_left
          ·simp only [Act.put, sA, sB, sC, i64_w, i32_w]
           rfl
          refine pure_ (i := 4) (N := some 30) (v := ?_) (a' := ?_) (ba 37 31) rfl rfl (any_of HT_.out (by kernel_rfl)) (fun _ _ _ h => h) (Or.inl ⟨by rfl, ?_⟩) ?_ ?_
          rotate_left
          ·intro w'
           go_simp
           with_reducible rfl
          rotate_left
          ·simp only [Act.put, sA, sB, sC, i64_w, i32_w]
           rfl
          refine take_ (i := 5) (N := some 31) (v := ?_) (a' := ?_) (ba 37 63) rfl rfl (take_ofW HT_.out HW_.out (by kernel_rfl)) (fun _ _ _ h => h) (Or.inl ⟨by rfl, ?_⟩) hHeld ?_ ?_
          rotate_left
          ·rintro w' ⟨s0, s1, s2, s3, s4, s5, s6, s7⟩
           go_simp
           with_reducible rfl
          rotate_left
          ·simp only [Act.put, sA, sB, sC, i64_w, i32_w]
           rfl
          refine one_ (i := 6) (N := some 32) (ba 37 127) rfl rfl (one_of HT_.out (by kernel_rfl)) (by decide) (fun K hK => ?_)
          refine goes_ Try.func25 (by kernel_rfl) rfl #[.slice Ao28 t262.length co28, .agg #[.int .i64 ((rd_T35 t259 x5_1).f0.f0), .int .i64 ((rd_T35 t259 x5_1).f0.f1)]] (by rfl) rfl rfl (by (try simp only [List.map_toArray, List.map_cons, List.map_nil]); first | done | rfl | (simp only [List.length_drop, List.length_take]; rfl)) ?_
          with_reducible refine (mapmakerlaw20_end.calls k1 _ _ t262 ((rd_T35 t259 x5_1).f0.f0) ((rd_T35 t259 x5_1).f0.f1) true _ ?side1 ?side2 A17.out).mono ?_
          (case side1 => repeat (first | exact (rR HO_4.out).2.2 | (with_reducible refine cA ?_ _) | (with_reducible refine cN ?_ _) | (with_reducible refine cD ?_)))
          (case side2 => exact (rR HO_4.out).2.1)
          rintro e w29 ⟨rfl, hb⟩
          obtain ⟨q0, q1, q2, q3, q4, q5, q6, q7⟩ := hHeld
          have HS_ := And.intro (hs hb q0) <| And.intro (hs hb q1) <| And.intro (hs hb q2) <| And.intro (hs hb q3) <| And.intro (hs hb q4) <| And.intro (hs hb q5) <| And.intro (hs hb q6) <| hs hb q7
          refine ⟨_, rfl, ?_⟩
          replace HO_3 := aM (rB (rl HO_3) hb)
          replace HO_4 := aM (rB (rl HO_4) hb)
          replace HB := aM (bS (bl) hb)
          (try clear hb)
          (try clear hb2)
          (try clear hk)
          (try clear hi)
          refine hK.out _ _ HS_ (fun hHeld => ?_)
          clear hK K
          refine norm_ (a' := ?_) ?_ ?_
          rotate_left
          ·show Act.put _ (some 32) _ = _
           simp only [Act.put, sA, sB, sC, i64_w, i32_w]
           rfl
          refine pure_ (i := 7) (N := some 33) (v := ?_) (a' := ?_) (ba 37 255) rfl rfl (any_of HT_.out (by kernel_rfl)) (fun _ _ _ h => h) (Or.inl ⟨by rfl, ?_⟩) ?_ ?_
          rotate_left
          ·intro w'
           go_simp
           with_reducible rfl
          rotate_left
          ·simp only [Act.put, sA, sB, sC, i64_w, i32_w]
           rfl
          refine pure_ (i := 8) (N := some 34) (v := ?_) (a' := ?_) (ba 37 511) rfl rfl (any_of HT_.out (by kernel_rfl)) (fun _ _ _ h => h) (Or.inl ⟨by rfl, ?_⟩) ?_ ?_
          rotate_left
          ·intro w'
           go_simp
           with_reducible rfl
          rotate_left
          ·simp only [Act.put, sA, sB, sC, i64_w, i32_w]
           rfl
          refine pure_ (i := 9) (N := some 35) (v := ?_) (a' := ?_) (ba 37 1023) rfl rfl (any_of HT_.out (by kernel_rfl)) (fun _ _ _ h => h) (Or.inl ⟨by rfl, ?_⟩) ?_ ?_
          rotate_left
          ·intro w'
           go_simp
           with_reducible rfl
          rotate_left
          ·simp only [Act.put, sA, sB, sC, i64_w, i32_w]
           rfl
          refine pure_ (i := 10) (N := some 36) (v := ?_) (a' := ?_) (ba 37 2047) rfl rfl (any_of HT_.out (by kernel_rfl)) (fun _ _ _ h => h) (Or.inl ⟨by rfl, ?_⟩) ?_ ?_
          rotate_left
          ·intro w'
           go_simp
           with_reducible rfl
          rotate_left
          ·simp only [Act.put, sA, sB, sC, i64_w, i32_w]
           rfl
          refine pure_ (i := 11) (N := some 37) (v := ?_) (a' := ?_) (ba 37 4095) rfl rfl (any_of HT_.out (by kernel_rfl)) (fun _ _ _ h => h) (Or.inl ⟨by rfl, ?_⟩) ?_ ?_
          rotate_left
          ·intro w'
           go_simp
           with_reducible rfl
          rotate_left
          ·simp only [Act.put, sA, sB, sC, i64_w, i32_w]
           rfl
          refine pure_ (i := 12) (N := some 38) (v := ?_) (a' := ?_) (ba 37 8191) rfl rfl (any_of HT_.out (by kernel_rfl)) (fun _ _ _ h => h) (Or.inl ⟨by rfl, ?_⟩) ?_ ?_
          rotate_left
          ·intro w'
           go_simp
           with_reducible rfl
          rotate_left
          ·simp only [Act.put, sA, sB, sC, i64_w, i32_w]
           rfl
          refine pure_ (i := 13) (N := some 39) (v := ?_) (a' := ?_) (ba 37 16383) rfl rfl (any_of HT_.out (by kernel_rfl)) (fun _ _ _ h => h) (Or.inl ⟨by rfl, ?_⟩) ?_ ?_
          rotate_left
          ·intro w'
           go_simp
           with_reducible rfl
          rotate_left
          ·simp only [Act.put, sA, sB, sC, i64_w, i32_w]
           rfl
          refine take_ (i := 14) (N := some 40) (v := ?_) (a' := ?_) (ba 37 32767) rfl rfl (take_ofW HT_.out HW_.out (by kernel_rfl)) (fun _ _ _ h => h) (Or.inl ⟨by rfl, ?_⟩) hHeld ?_ ?_
          rotate_left
          ·rintro w' ⟨s0, s1, s2, s3, s4, s5, s6, s7⟩
           go_simp
           with_reducible rfl
          rotate_left
          ·simp only [Act.put, sA, sB, sC, i64_w, i32_w]
           rfl
          refine one_ (i := 15) (N := some 41) (ba 37 65535) rfl rfl (one_of HT_.out (by kernel_rfl)) (by decide) (fun K hK => ?_)
          refine goes_ Try.func25 (by kernel_rfl) rfl #[.slice Ao28 t262.length co28, .agg #[.int .i64 ((rd_T35 t259 x5_1).f1.f0), .int .i64 ((rd_T35 t259 x5_1).f1.f1)]] (by rfl) rfl rfl (by (try simp only [List.map_toArray, List.map_cons, List.map_nil]); first | done | rfl | (simp only [List.length_drop, List.length_take]; rfl)) ?_
          with_reducible refine (mapmakerlaw20_end.calls k1 _ _ t262 ((rd_T35 t259 x5_1).f1.f0) ((rd_T35 t259 x5_1).f1.f1) false _ ?side1 ?side2 A19.out).mono ?_
          (case side1 => repeat (first | exact (rR HO_4.out).2.2 | (with_reducible refine cA ?_ _) | (with_reducible refine cN ?_ _) | (with_reducible refine cD ?_)))
          (case side2 => exact (rR HO_4.out).2.1)
          rintro e w30 ⟨rfl, hb⟩
          obtain ⟨q0, q1, q2, q3, q4, q5, q6, q7⟩ := hHeld
          have HS_ := And.intro (hs hb q0) <| And.intro (hs hb q1) <| And.intro (hs hb q2) <| And.intro (hs hb q3) <| And.intro (hs hb q4) <| And.intro (hs hb q5) <| And.intro (hs hb q6) <| hs hb q7
          refine ⟨_, rfl, ?_⟩
          replace HO_3 := aM (rB (rl HO_3) hb)
          replace HO_4 := aM (rB (rl HO_4) hb)
          replace HB := aM (bS (bl) hb)
          (try clear hb)
          (try clear hb2)
          (try clear hk)
          (try clear hi)
          refine hK.out _ _ HS_ (fun hHeld => ?_)
          clear hK K
          refine norm_ (a' := ?_) ?_ ?_
          rotate_left
          ·show Act.put _ (some 41) _ = _
           simp only [Act.put, sA, sB, sC, i64_w, i32_w]
           rfl
          refine pure_ (i := 16) (N := some 42) (v := ?_) (a' := ?_) (ba 37 131071) rfl rfl (any_of HT_.out (by kernel_rfl)) (fun _ _ _ h => h) (Or.inl ⟨by rfl, ?_⟩) ?_ ?_
          rotate_left
          ·intro w'
           go_simp
           with_reducible rfl
          rotate_left
          ·simp only [Act.put, sA, sB, sC, i64_w, i32_w]
           rfl
          refine pure_ (i := 17) (N := some 43) (v := ?_) (a' := ?_) (ba 37 262143) rfl rfl (any_of HT_.out (by kernel_rfl)) (fun _ _ _ h => h) (Or.inl ⟨by rfl, ?_⟩) ?_ ?_
          rotate_left
          ·intro w'
           go_simp
           with_reducible rfl
          rotate_left
          ·simp only [Act.put, sA, sB, sC, i64_w, i32_w]
           rfl
          refine pure_ (i := 18) (N := some 44) (v := ?_) (a' := ?_) (ba 37 524287) rfl rfl (any_of HT_.out (by kernel_rfl)) (fun _ _ _ h => h) (Or.inl ⟨by rfl, ?_⟩) ?_ ?_
          rotate_left
          ·intro w'
           go_simp
           with_reducible rfl
          rotate_left
          ·simp only [Act.put, sA, sB, sC, i64_w, i32_w]
           rfl
          refine pure_ (i := 19) (N := some 45) (v := undef) (a' := ?_) (ba 37 1048575) rfl rfl (any_of HT_.out (by kernel_rfl)) (fun _ _ _ h => h) (Or.inr ⟨by rfl, rfl⟩) ?_ ?_
          rotate_left
          ·simp only [Act.put, sA, sB, sC, i64_w, i32_w]
           rfl
          refine pure_ (i := 20) (N := some 46) (v := undef) (a' := ?_) (ba 37 2097151) rfl rfl (any_of HT_.out (by kernel_rfl)) (fun _ _ _ h => h) (Or.inr ⟨by rfl, rfl⟩) ?_ ?_
          rotate_left
          ·simp only [Act.put, sA, sB, sC, i64_w, i32_w]
           rfl
          refine pure_ (i := 21) (N := some 47) (v := undef) (a' := ?_) (ba 37 4194303) rfl rfl (any_of HT_.out (by kernel_rfl)) (fun _ _ _ h => h) (Or.inr ⟨by rfl, rfl⟩) ?_ ?_
          rotate_left
          ·simp only [Act.put, sA, sB, sC, i64_w, i32_w]
           rfl
          refine pure_ (i := 22) (N := some 48) (v := undef) (a' := ?_) (ba 37 8388607) rfl rfl (any_of HT_.out (by kernel_rfl)) (fun _ _ _ h => h) (Or.inr ⟨by rfl, rfl⟩) ?_ ?_
          rotate_left
          ·simp only [Act.put, sA, sB, sC, i64_w, i32_w]
           rfl
          refine pure_ (i := 23) (N := some 49) (v := undef) (a' := ?_) (ba 37 16777215) rfl rfl (any_of HT_.out (by kernel_rfl)) (fun _ _ _ h => h) (Or.inr ⟨by rfl, rfl⟩) ?_ ?_
          rotate_left
          ·simp only [Act.put, sA, sB, sC, i64_w, i32_w]
           rfl
          refine pure_ (i := 24) (N := some 50) (v := undef) (a' := ?_) (ba 37 33554431) rfl rfl (any_of HT_.out (by kernel_rfl)) (fun _ _ _ h => h) (Or.inr ⟨by rfl, rfl⟩) ?_ ?_
          rotate_left
          ·simp only [Act.put, sA, sB, sC, i64_w, i32_w]
           rfl
          refine pure_ (i := 25) (N := some 51) (v := undef) (a' := ?_) (ba 37 67108863) rfl rfl (any_of HT_.out (by kernel_rfl)) (fun _ _ _ h => h) (Or.inr ⟨by rfl, rfl⟩) ?_ ?_
          rotate_left
          ·simp only [Act.put, sA, sB, sC, i64_w, i32_w]
           rfl
          refine pure_ (i := 26) (N := some 52) (v := undef) (a' := ?_) (ba 37 134217727) rfl rfl (any_of HT_.out (by kernel_rfl)) (fun _ _ _ h => h) (Or.inr ⟨by rfl, rfl⟩) ?_ ?_
          rotate_left
          ·simp only [Act.put, sA, sB, sC, i64_w, i32_w]
           rfl
          refine pure_ (i := 27) (N := some 53) (v := undef) (a' := ?_) (ba 37 268435455) rfl rfl (any_of HT_.out (by kernel_rfl)) (fun _ _ _ h => h) (Or.inr ⟨by rfl, rfl⟩) ?_ ?_
          rotate_left
          ·simp only [Act.put, sA, sB, sC, i64_w, i32_w]
           rfl
          refine pure_ (i := 28) (N := some 54) (v := undef) (a' := ?_) (ba 37 536870911) rfl rfl (any_of HT_.out (by kernel_rfl)) (fun _ _ _ h => h) (Or.inr ⟨by rfl, rfl⟩) ?_ ?_
          rotate_left
          ·simp only [Act.put, sA, sB, sC, i64_w, i32_w]
           rfl
          refine pure_ (i := 29) (N := some 55) (v := undef) (a' := ?_) (ba 37 1073741823) rfl rfl (any_of HT_.out (by kernel_rfl)) (fun _ _ _ h => h) (Or.inr ⟨by rfl, rfl⟩) ?_ ?_
          rotate_left
          ·simp only [Act.put, sA, sB, sC, i64_w, i32_w]
           rfl
          refine pure_ (i := 30) (N := some 56) (v := undef) (a' := ?_) (ba 37 2147483647) rfl rfl (any_of HT_.out (by kernel_rfl)) (fun _ _ _ h => h) (Or.inr ⟨by rfl, rfl⟩) ?_ ?_
          rotate_left
          ·simp only [Act.put, sA, sB, sC, i64_w, i32_w]
           rfl
          refine pure_ (i := 31) (N := some 57) (v := undef) (a' := ?_) (ba 37 4294967295) rfl rfl (any_of HT_.out (by kernel_rfl)) (fun _ _ _ h => h) (Or.inr ⟨by rfl, rfl⟩) ?_ ?_
          rotate_left
          ·simp only [Act.put, sA, sB, sC, i64_w, i32_w]
           rfl
          refine pure_ (i := 32) (N := some 58) (v := undef) (a' := ?_) (ba 37 8589934591) rfl rfl (any_of HT_.out (by kernel_rfl)) (fun _ _ _ h => h) (Or.inr ⟨by rfl, rfl⟩) ?_ ?_
          rotate_left
          ·simp only [Act.put, sA, sB, sC, i64_w, i32_w]
           rfl
          refine pure_ (i := 33) (N := some 59) (v := undef) (a' := ?_) (ba 37 17179869183) rfl rfl (any_of HT_.out (by kernel_rfl)) (fun _ _ _ h => h) (Or.inr ⟨by rfl, rfl⟩) ?_ ?_
          rotate_left
          ·simp only [Act.put, sA, sB, sC, i64_w, i32_w]
           rfl
          refine pure_ (i := 34) (N := some 60) (v := undef) (a' := ?_) (ba 37 34359738367) rfl rfl (any_of HT_.out (by kernel_rfl)) (fun _ _ _ h => h) (Or.inr ⟨by rfl, rfl⟩) ?_ ?_
          rotate_left
          ·simp only [Act.put, sA, sB, sC, i64_w, i32_w]
           rfl
          refine pure_ (i := 35) (N := some 61) (v := undef) (a' := ?_) (ba 37 68719476735) rfl rfl (any_of HT_.out (by kernel_rfl)) (fun _ _ _ h => h) (Or.inr ⟨by rfl, rfl⟩) ?_ ?_
          rotate_left
          ·simp only [Act.put, sA, sB, sC, i64_w, i32_w]
           rfl
          refine pure_ (i := 36) (N := some 62) (v := ?_) (a' := ?_) (ba 37 137438953471) rfl rfl (any_of HT_.out (by kernel_rfl)) (fun _ _ _ h => h) (Or.inl ⟨by rfl, ?_⟩) ?_ ?_
          rotate_left
          ·intro w'
           go_simp
           with_reducible rfl
          rotate_left
          ·simp only [Act.put, sA, sB, sC, i64_w, i32_w]
           rfl
          refine done_ (done_of HT_.out (by kernel_rfl)) ?_
          try go_wp2
          go_meet
          case rel => exact ⟨_, (true), (by first | rfl | (simp; done) | (simp [*]; done)), H', ⟨by have := HK1.out; first | omega | exact Nat.le_refl _⟩, ⟨by (with_reducible repeat (first | apply rA | apply rN | apply rD)); exact HO_3.out⟩, ⟨by (with_reducible repeat (first | apply rA | apply rN | apply rD)); exact HO_4.out⟩, ⟨bl⟩⟩
        ·replace c18 := Bool.eq_false_iff.mpr c18
         subst c18
         have H1 : (mapmakerlaw20_NodingIdempotent.j1 k1 t259 t262 x5_1 true) = some r := by rw [if_neg (show ¬ (false = true) by decide)] at H; exact H
         clear H
         have H := H1
         clear H1
         have H' := aM H
         clear H
         try go_wp2
         replace HO_3 := aM (rD HO_3.out)
         replace HO_4 := aM (rD HO_4.out)
         replace HB := aM (bD HB.out)
         have p270 : 0 ≤ (x5_1 : Int) := of_decide_eq_true (by first | (with_reducible assumption) | assumption)
         have q270 : x5_1 < (t259.length : Int) := of_decide_eq_true (by first | (with_reducible assumption) | assumption)
         obtain ⟨ad270, e270, hx270_0, hx270_1, hx270_2, hx270_3⟩ := at_T35 (rR HO_3.out).2.2 x5_1 p270 q270
         cases e270
         replace p270 := eq_true p270
         replace q270 := eq_true q270
         obtain ⟨Ao32, co32, eo32⟩ := Kd.R_slice HO_4.out
         (first | subst eo32 | (injection eo32 with f1_ f2_ f3_; have f4_ := f1_.symm; have f5_ := f3_.symm; clear f1_ f2_ f3_; subst f4_; subst f5_))
         refine start_ (n := 37) (S := fun w' => w'.cell? (ad270.add ((x5_1).toNat * 4)) = some (.int .i64 ((rd_T35 t259 x5_1).f0.f0)) ∧ w'.cell? ⟨(ad270.add ((x5_1).toNat * 4)).block, (ad270.add ((x5_1).toNat * 4)).off + 1, none⟩ = some (.int .i64 ((rd_T35 t259 x5_1).f0.f1)) ∧ w'.cell? ⟨(ad270.add ((x5_1).toNat * 4)).block, (ad270.add ((x5_1).toNat * 4)).off + 2, none⟩ = some (.int .i64 ((rd_T35 t259 x5_1).f1.f0)) ∧ w'.cell? ⟨(ad270.add ((x5_1).toNat * 4)).block, (ad270.add ((x5_1).toNat * 4)).off + 3, none⟩ = some (.int .i64 ((rd_T35 t259 x5_1).f1.f1))) (ds := []) #[false, false, false, false, false, false, false, false, false, false, false, false, false, false, false, false, false, false, false, false, false, false, false, false, false, false, false, false, false, false, false, false, false, false, false, false, false] (by kernel_rfl) rfl rfl ⟨hx270_0, hx270_1, hx270_2, hx270_3⟩ (fun hHeld => ?_); refine with_tabW mapmakerlaw20_NodingIdempotent.tab9 mapmakerlaw20_NodingIdempotent.bits9 (fun HT_ HW_ => ?_)
         generalize wr.drew = w31 at HO_3 HO_4 HB hx270_0 hx270_1 hx270_2 hx270_3 hHeld ⊢
         refine pure_ (i := 0) (N := some 26) (v := ?_) (a' := ?_) (ba 37 1) rfl rfl (any_of HT_.out (by kernel_rfl)) (fun _ _ _ h => h) (Or.inl ⟨by rfl, ?_⟩) ?_ ?_
         rotate_left
         ·intro w'
          go_simp
          with_reducible rfl
         rotate_left
         ·simp only [Act.put, sA, sB, sC, i64_w, i32_w]
          rfl
         refine pure_ (i := 1) (N := some 27) (v := ?_) (a' := ?_) (ba 37 3) rfl rfl (any_of HT_.out (by kernel_rfl)) (fun _ _ _ h => h) (Or.inl ⟨by rfl, ?_⟩) ?_ ?_
         rotate_left
         ·intro w'
          go_simp
          with_reducible rfl
         rotate_left
         ·simp only [Act.put, sA, sB, sC, i64_w, i32_w]
          rfl
         refine pure_ (i := 2) (N := some 28) (v := ?_) (a' := ?_) (ba 37 7) rfl rfl (any_of HT_.out (by kernel_rfl)) (fun _ _ _ h => h) (Or.inl ⟨by rfl, ?_⟩) ?_ ?_
         rotate_left
         ·intro w'
          go_simp
          with_reducible rfl
         rotate_left
         ·simp only [Act.put, sA, sB, sC, i64_w, i32_w]
          rfl
         refine pure_ (i := 3) (N := some 29) (v := ?_) (a' := ?_) (ba 37 15) rfl rfl (any_of HT_.out (by kernel_rfl)) (fun _ _ _ h => h) (Or.inl ⟨by rfl, ?_⟩) ?_ ?_
         rotate_left
         ·intro w'
          go_simp
          with_reducible rfl
         rotate_left
         ·simp only [Act.put, sA, sB, sC, i64_w, i32_w]
          rfl
         refine pure_ (i := 4) (N := some 30) (v := ?_) (a' := ?_) (ba 37 31) rfl rfl (any_of HT_.out (by kernel_rfl)) (fun _ _ _ h => h) (Or.inl ⟨by rfl, ?_⟩) ?_ ?_
         rotate_left
         ·intro w'
          go_simp
          with_reducible rfl
         rotate_left
         ·simp only [Act.put, sA, sB, sC, i64_w, i32_w]
          rfl
         refine take_ (i := 5) (N := some 31) (v := ?_) (a' := ?_) (ba 37 63) rfl rfl (take_ofW HT_.out HW_.out (by kernel_rfl)) (fun _ _ _ h => h) (Or.inl ⟨by rfl, ?_⟩) hHeld ?_ ?_
         rotate_left
         ·rintro w' ⟨s0, s1, s2, s3⟩
          go_simp
          with_reducible rfl
         rotate_left
         ·simp only [Act.put, sA, sB, sC, i64_w, i32_w]
          rfl
         refine one_ (i := 6) (N := some 32) (ba 37 127) rfl rfl (one_of HT_.out (by kernel_rfl)) (by decide) (fun K hK => ?_)
         refine goes_ Try.func25 (by kernel_rfl) rfl #[.slice Ao32 t262.length co32, .agg #[.int .i64 ((rd_T35 t259 x5_1).f0.f0), .int .i64 ((rd_T35 t259 x5_1).f0.f1)]] (by rfl) rfl rfl (by (try simp only [List.map_toArray, List.map_cons, List.map_nil]); first | done | rfl | (simp only [List.length_drop, List.length_take]; rfl)) ?_
         with_reducible refine (mapmakerlaw20_end.calls k1 _ _ t262 ((rd_T35 t259 x5_1).f0.f0) ((rd_T35 t259 x5_1).f0.f1) false _ ?side1 ?side2 A17.out).mono ?_
         (case side1 => repeat (first | exact (rR HO_4.out).2.2 | (with_reducible refine cA ?_ _) | (with_reducible refine cN ?_ _) | (with_reducible refine cD ?_)))
         (case side2 => exact (rR HO_4.out).2.1)
         rintro e w33 ⟨rfl, hb⟩
         obtain ⟨q0, q1, q2, q3⟩ := hHeld
         have HS_ := And.intro (hs hb q0) <| And.intro (hs hb q1) <| And.intro (hs hb q2) <| hs hb q3
         refine ⟨_, rfl, ?_⟩
         replace HO_3 := aM (rB (rl HO_3) hb)
         replace HO_4 := aM (rB (rl HO_4) hb)
         replace HB := aM (bS (bl) hb)
         (try clear hb)
         (try clear hb2)
         (try clear hk)
         (try clear hi)
         refine hK.out _ _ HS_ (fun hHeld => ?_)
         clear hK K
         refine norm_ (a' := ?_) ?_ ?_
         rotate_left
         ·show Act.put _ (some 32) _ = _
          simp only [Act.put, sA, sB, sC, i64_w, i32_w]
          rfl
         refine pure_ (i := 7) (N := some 33) (v := ?_) (a' := ?_) (ba 37 255) rfl rfl (any_of HT_.out (by kernel_rfl)) (fun _ _ _ h => h) (Or.inl ⟨by rfl, ?_⟩) ?_ ?_
         rotate_left
         ·intro w'
          go_simp
          with_reducible rfl
         rotate_left
         ·simp only [Act.put, sA, sB, sC, i64_w, i32_w]
          rfl
         refine pure_ (i := 8) (N := some 34) (v := ?_) (a' := ?_) (ba 37 511) rfl rfl (any_of HT_.out (by kernel_rfl)) (fun _ _ _ h => h) (Or.inl ⟨by rfl, ?_⟩) ?_ ?_
         rotate_left
         ·intro w'
          go_simp
          with_reducible rfl
         rotate_left
         ·simp only [Act.put, sA, sB, sC, i64_w, i32_w]
          rfl
         refine pure_ (i := 9) (N := some 35) (v := undef) (a' := ?_) (ba 37 1023) rfl rfl (any_of HT_.out (by kernel_rfl)) (fun _ _ _ h => h) (Or.inr ⟨by rfl, rfl⟩) ?_ ?_
         rotate_left
         ·simp only [Act.put, sA, sB, sC, i64_w, i32_w]
          rfl
         refine pure_ (i := 10) (N := some 36) (v := undef) (a' := ?_) (ba 37 2047) rfl rfl (any_of HT_.out (by kernel_rfl)) (fun _ _ _ h => h) (Or.inr ⟨by rfl, rfl⟩) ?_ ?_
         rotate_left
         ·simp only [Act.put, sA, sB, sC, i64_w, i32_w]
          rfl
         refine pure_ (i := 11) (N := some 37) (v := undef) (a' := ?_) (ba 37 4095) rfl rfl (any_of HT_.out (by kernel_rfl)) (fun _ _ _ h => h) (Or.inr ⟨by rfl, rfl⟩) ?_ ?_
         rotate_left
         ·simp only [Act.put, sA, sB, sC, i64_w, i32_w]
          rfl
         refine pure_ (i := 12) (N := some 38) (v := undef) (a' := ?_) (ba 37 8191) rfl rfl (any_of HT_.out (by kernel_rfl)) (fun _ _ _ h => h) (Or.inr ⟨by rfl, rfl⟩) ?_ ?_
         rotate_left
         ·simp only [Act.put, sA, sB, sC, i64_w, i32_w]
          rfl
         refine pure_ (i := 13) (N := some 39) (v := undef) (a' := ?_) (ba 37 16383) rfl rfl (any_of HT_.out (by kernel_rfl)) (fun _ _ _ h => h) (Or.inr ⟨by rfl, rfl⟩) ?_ ?_
         rotate_left
         ·simp only [Act.put, sA, sB, sC, i64_w, i32_w]
          rfl
         refine pure_ (i := 14) (N := some 40) (v := undef) (a' := ?_) (ba 37 32767) rfl rfl (any_of HT_.out (by kernel_rfl)) (fun _ _ _ h => h) (Or.inr ⟨by rfl, rfl⟩) ?_ ?_
         rotate_left
         ·simp only [Act.put, sA, sB, sC, i64_w, i32_w]
          rfl
         refine pure_ (i := 15) (N := some 41) (v := undef) (a' := ?_) (ba 37 65535) rfl rfl (any_of HT_.out (by kernel_rfl)) (fun _ _ _ h => h) (Or.inr ⟨by rfl, rfl⟩) ?_ ?_
         rotate_left
         ·simp only [Act.put, sA, sB, sC, i64_w, i32_w]
          rfl
         refine pure_ (i := 16) (N := some 42) (v := undef) (a' := ?_) (ba 37 131071) rfl rfl (any_of HT_.out (by kernel_rfl)) (fun _ _ _ h => h) (Or.inr ⟨by rfl, rfl⟩) ?_ ?_
         rotate_left
         ·simp only [Act.put, sA, sB, sC, i64_w, i32_w]
          rfl
         refine pure_ (i := 17) (N := some 43) (v := ?_) (a' := ?_) (ba 37 262143) rfl rfl (any_of HT_.out (by kernel_rfl)) (fun _ _ _ h => h) (Or.inl ⟨by rfl, ?_⟩) ?_ ?_
         rotate_left
         ·intro w'
          go_simp
          with_reducible rfl
         rotate_left
         ·simp only [Act.put, sA, sB, sC, i64_w, i32_w]
          rfl
         refine pure_ (i := 18) (N := some 44) (v := ?_) (a' := ?_) (ba 37 524287) rfl rfl (any_of HT_.out (by kernel_rfl)) (fun _ _ _ h => h) (Or.inl ⟨by rfl, ?_⟩) ?_ ?_
         rotate_left
         ·intro w'
          go_simp
          with_reducible rfl
         rotate_left
         ·simp only [Act.put, sA, sB, sC, i64_w, i32_w]
          rfl
         refine pure_ (i := 19) (N := some 45) (v := undef) (a' := ?_) (ba 37 1048575) rfl rfl (any_of HT_.out (by kernel_rfl)) (fun _ _ _ h => h) (Or.inr ⟨by rfl, rfl⟩) ?_ ?_
         rotate_left
         ·simp only [Act.put, sA, sB, sC, i64_w, i32_w]
          rfl
         refine pure_ (i := 20) (N := some 46) (v := undef) (a' := ?_) (ba 37 2097151) rfl rfl (any_of HT_.out (by kernel_rfl)) (fun _ _ _ h => h) (Or.inr ⟨by rfl, rfl⟩) ?_ ?_
         rotate_left
         ·simp only [Act.put, sA, sB, sC, i64_w, i32_w]
          rfl
         refine pure_ (i := 21) (N := some 47) (v := undef) (a' := ?_) (ba 37 4194303) rfl rfl (any_of HT_.out (by kernel_rfl)) (fun _ _ _ h => h) (Or.inr ⟨by rfl, rfl⟩) ?_ ?_
         rotate_left
         ·simp only [Act.put, sA, sB, sC, i64_w, i32_w]
          rfl
         refine pure_ (i := 22) (N := some 48) (v := undef) (a' := ?_) (ba 37 8388607) rfl rfl (any_of HT_.out (by kernel_rfl)) (fun _ _ _ h => h) (Or.inr ⟨by rfl, rfl⟩) ?_ ?_
         rotate_left
         ·simp only [Act.put, sA, sB, sC, i64_w, i32_w]
          rfl
         refine pure_ (i := 23) (N := some 49) (v := undef) (a' := ?_) (ba 37 16777215) rfl rfl (any_of HT_.out (by kernel_rfl)) (fun _ _ _ h => h) (Or.inr ⟨by rfl, rfl⟩) ?_ ?_
         rotate_left
         ·simp only [Act.put, sA, sB, sC, i64_w, i32_w]
          rfl
         refine pure_ (i := 24) (N := some 50) (v := undef) (a' := ?_) (ba 37 33554431) rfl rfl (any_of HT_.out (by kernel_rfl)) (fun _ _ _ h => h) (Or.inr ⟨by rfl, rfl⟩) ?_ ?_
         rotate_left
         ·simp only [Act.put, sA, sB, sC, i64_w, i32_w]
          rfl
         refine pure_ (i := 25) (N := some 51) (v := undef) (a' := ?_) (ba 37 67108863) rfl rfl (any_of HT_.out (by kernel_rfl)) (fun _ _ _ h => h) (Or.inr ⟨by rfl, rfl⟩) ?_ ?_
         rotate_left
         ·simp only [Act.put, sA, sB, sC, i64_w, i32_w]
          rfl
         refine pure_ (i := 26) (N := some 52) (v := undef) (a' := ?_) (ba 37 134217727) rfl rfl (any_of HT_.out (by kernel_rfl)) (fun _ _ _ h => h) (Or.inr ⟨by rfl, rfl⟩) ?_ ?_
         rotate_left
         ·simp only [Act.put, sA, sB, sC, i64_w, i32_w]
          rfl
         refine pure_ (i := 27) (N := some 53) (v := undef) (a' := ?_) (ba 37 268435455) rfl rfl (any_of HT_.out (by kernel_rfl)) (fun _ _ _ h => h) (Or.inr ⟨by rfl, rfl⟩) ?_ ?_
         rotate_left
         ·simp only [Act.put, sA, sB, sC, i64_w, i32_w]
          rfl
         refine pure_ (i := 28) (N := some 54) (v := undef) (a' := ?_) (ba 37 536870911) rfl rfl (any_of HT_.out (by kernel_rfl)) (fun _ _ _ h => h) (Or.inr ⟨by rfl, rfl⟩) ?_ ?_
         rotate_left
         ·simp only [Act.put, sA, sB, sC, i64_w, i32_w]
          rfl
         refine pure_ (i := 29) (N := some 55) (v := undef) (a' := ?_) (ba 37 1073741823) rfl rfl (any_of HT_.out (by kernel_rfl)) (fun _ _ _ h => h) (Or.inr ⟨by rfl, rfl⟩) ?_ ?_
         rotate_left
         ·simp only [Act.put, sA, sB, sC, i64_w, i32_w]
          rfl
         refine pure_ (i := 30) (N := some 56) (v := undef) (a' := ?_) (ba 37 2147483647) rfl rfl (any_of HT_.out (by kernel_rfl)) (fun _ _ _ h => h) (Or.inr ⟨by rfl, rfl⟩) ?_ ?_
         rotate_left
         ·simp only [Act.put, sA, sB, sC, i64_w, i32_w]
          rfl
         refine pure_ (i := 31) (N := some 57) (v := undef) (a' := ?_) (ba 37 4294967295) rfl rfl (any_of HT_.out (by kernel_rfl)) (fun _ _ _ h => h) (Or.inr ⟨by rfl, rfl⟩) ?_ ?_
         rotate_left
         ·simp only [Act.put, sA, sB, sC, i64_w, i32_w]
          rfl
         refine pure_ (i := 32) (N := some 58) (v := undef) (a' := ?_) (ba 37 8589934591) rfl rfl (any_of HT_.out (by kernel_rfl)) (fun _ _ _ h => h) (Or.inr ⟨by rfl, rfl⟩) ?_ ?_
         rotate_left
         ·simp only [Act.put, sA, sB, sC, i64_w, i32_w]
          rfl
         refine pure_ (i := 33) (N := some 59) (v := undef) (a' := ?_) (ba 37 17179869183) rfl rfl (any_of HT_.out (by kernel_rfl)) (fun _ _ _ h => h) (Or.inr ⟨by rfl, rfl⟩) ?_ ?_
         rotate_left
         ·simp only [Act.put, sA, sB, sC, i64_w, i32_w]
          rfl
         refine pure_ (i := 34) (N := some 60) (v := undef) (a' := ?_) (ba 37 34359738367) rfl rfl (any_of HT_.out (by kernel_rfl)) (fun _ _ _ h => h) (Or.inr ⟨by rfl, rfl⟩) ?_ ?_
         rotate_left
         ·simp only [Act.put, sA, sB, sC, i64_w, i32_w]
          rfl
         refine pure_ (i := 35) (N := some 61) (v := undef) (a' := ?_) (ba 37 68719476735) rfl rfl (any_of HT_.out (by kernel_rfl)) (fun _ _ _ h => h) (Or.inr ⟨by rfl, rfl⟩) ?_ ?_
         rotate_left
         ·simp only [Act.put, sA, sB, sC, i64_w, i32_w]
          rfl
         refine pure_ (i := 36) (N := some 62) (v := ?_) (a' := ?_) (ba 37 137438953471) rfl rfl (any_of HT_.out (by kernel_rfl)) (fun _ _ _ h => h) (Or.inl ⟨by rfl, ?_⟩) ?_ ?_
         rotate_left
         ·intro w'
          go_simp
          with_reducible rfl
         rotate_left
         ·simp only [Act.put, sA, sB, sC, i64_w, i32_w]
          rfl
         refine done_ (done_of HT_.out (by kernel_rfl)) ?_
         try go_wp2
         go_meet
         case rel => exact ⟨_, (true), (by first | rfl | (simp; done) | (simp [*]; done)), H', ⟨by have := HK1.out; first | omega | exact Nat.le_refl _⟩, ⟨by (with_reducible repeat (first | apply rA | apply rN | apply rD)); exact HO_3.out⟩, ⟨by (with_reducible repeat (first | apply rA | apply rN | apply rD)); exact HO_4.out⟩, ⟨bl⟩⟩
       ·rw [if_neg c16] at H
        exact absurd H (by simp)
      case rest =>
       clear HC15
       try clear c1
       try clear c2
       try clear p2
       try clear q2
       try clear hx2
       try clear c16
       try clear c18
       try clear c20
       try clear c25
       try clear p27
       try clear q27
       try clear hx27
       try clear hx270_0
       try clear hx270_1
       try clear hx270_2
       try clear hx270_3
       try clear hx272_0
       try clear hx272_1
       try clear hx272_2
       try clear hx272_3
       try clear p270
       try clear p272
       try clear q270
       try clear q272
       obtain ⟨kq, x62_14, rfl, HA, HJ14, HO_3, HO_4, HB⟩ := hcut
       cases kq with
       | zero => exact absurd HA.out (by simp [mapmakerlaw20_NodingIdempotent.j1])
       | succ kj14 =>
        have H := HA.out
        clear HA
        simp only [mapmakerlaw20_NodingIdempotent.j1] at H
        by_cases c34 : x62_14 = true
        ·subst c34
         have H1 : (some false) = some r := by rw [if_pos rfl] at H; exact H
         clear H
         have H := H1
         clear H1
         obtain rfl := Option.some.inj H
         go_wp2
         go_ret
         exact ⟨by first | rfl | (simp [errW_none, errW_some] <;> rfl) | (simp [*, errW_none, errW_some] <;> rfl), bl⟩
        ·replace c34 := Bool.eq_false_iff.mpr c34
         subst c34
         have H1 : (mapmakerlaw20_NodingIdempotent.l1 kj14 t259 t262 x5_1 0) = some r := by rw [if_neg (show ¬ (false = true) by decide)] at H; exact H
         clear H
         have H := H1
         clear H1
         have H' := aM H
         clear H
         go_wp2
         go_loopg [6] kj14 (fun kq v6 w' => ∃ (x6_3 : Int), v6 = .int .i64 x6_3 ∧ Aside0 (mapmakerlaw20_NodingIdempotent.l1 kq t259 t262 x5_1 x6_3 = some r) ∧ Aside0 (kq ≤ kj14) ∧ Aside0 (Kd.R k35 35 w' w.heap.size (fun k_ => some k_ ≠ (v263 : Value).ownBlock) (.slice Ao11 t259.length co11) t259) ∧ Aside0 (Kd.R k35 35 w' w.heap.size (fun k_ => some k_ ≠ ((.slice Ao11 t259.length co11) : Value).ownBlock) v263 t262) ∧ Aside0 (Below w.heap.size w w'))
         case atStart => exact ⟨(0), (by first | rfl | (simp; done) | (simp [*]; done)), H', ⟨Nat.le_refl _⟩, ⟨by (with_reducible repeat (first | apply rA | apply rN | apply rD)); exact HO_3.out⟩, ⟨by (with_reducible repeat (first | apply rA | apply rN | apply rD)); exact HO_4.out⟩, ⟨bl⟩⟩
         case round =>
          clear H'
          try clear c1
          try clear c2
          try clear p2
          try clear q2
          try clear hx2
          try clear c3
          try clear c16
          try clear c18
          try clear c20
          try clear c25
          try clear p27
          try clear q27
          try clear hx27
          try clear c34
          try clear hx270_0
          try clear hx270_1
          try clear hx270_2
          try clear hx270_3
          try clear hx272_0
          try clear hx272_1
          try clear hx272_2
          try clear hx272_3
          try clear p2
          try clear p27
          try clear p270
          try clear p272
          try clear q2
          try clear q27
          try clear q270
          try clear q272
          obtain ⟨x6_3, rfl, HA, HK3, HO_3, HO_4, HB⟩ := hrel
          cases gk with
          | zero => exact absurd HA.out (by simp [mapmakerlaw20_NodingIdempotent.l1])
          | succ k3 =>
           have H := HA.out
           clear HA
           simp only [mapmakerlaw20_NodingIdempotent.l1] at H
           have HC35 := aM H
           clear H
           go_upto_region 12 with (fail)
           go_cut [70] (fun v70 wc => ∃ (kq : Nat) (x70_34 : Bool), v70 = .bool x70_34 ∧ Aside0 (mapmakerlaw20_NodingIdempotent.j3 kq t259 t262 x5_1 x6_3 x70_34 = some r) ∧ Aside0 (kq ≤ k3) ∧ Aside0 (Kd.R k35 35 wc w.heap.size (fun k_ => some k_ ≠ (v263 : Value).ownBlock) (.slice Ao11 t259.length co11) t259) ∧ Aside0 (Kd.R k35 35 wc w.heap.size (fun k_ => some k_ ≠ ((.slice Ao11 t259.length co11) : Value).ownBlock) v263 t262) ∧ Aside0 (Below w.heap.size w wc))
           case first =>
            have H := HC35.out
            clear HC35
            by_cases c36 : x6_3 < x5_1
            ·rw [if_pos c36] at H
             have c36b0 : decide (x6_3 < x5_1) = true := decide_eq_true c36
             clear c36
             (first | rw [c36b0] | (simp only [i64_w, i32_w]; rw [c36b0]) | skip)
             have H' := aM H
             clear H
             go_wp2
             go_meet
             case rel => exact ⟨_, (decide ((t259.length : Int) ≤ 80)), (by first | rfl | (simp; done) | (simp [*]; done)), H', ⟨by have := HK1.out; have := HJ14.out; have := HK3.out; first | omega | exact Nat.le_refl _⟩, ⟨by (with_reducible repeat (first | apply rA | apply rN | apply rD)); exact HO_3.out⟩, ⟨by (with_reducible repeat (first | apply rA | apply rN | apply rD)); exact HO_4.out⟩, ⟨bl⟩⟩
            ·rw [if_neg c36] at H
             have c36b0 : decide (x6_3 < x5_1) = false := decide_eq_false c36
             clear c36
             (first | rw [c36b0] | (simp only [i64_w, i32_w]; rw [c36b0]) | skip)
             have H' := aM H
             clear H
             go_wp2
             go_meet
             case rel => exact ⟨_, (false), (by first | rfl | (simp; done) | (simp [*]; done)), H', ⟨by have := HK1.out; have := HJ14.out; have := HK3.out; first | omega | exact Nat.le_refl _⟩, ⟨by (with_reducible repeat (first | apply rA | apply rN | apply rD)); exact HO_3.out⟩, ⟨by (with_reducible repeat (first | apply rA | apply rN | apply rD)); exact HO_4.out⟩, ⟨bl⟩⟩
           case rest =>
            clear HC35
            try clear c1
            try clear c2
            try clear p2
            try clear q2
            try clear hx2
            try clear c3
            try clear c16
            try clear c18
            try clear c20
            try clear c25
            try clear p27
            try clear q27
            try clear hx27
            try clear c34
            try clear c36
            try clear c36b0
            try clear hx270_0
            try clear hx270_1
            try clear hx270_2
            try clear hx270_3
            try clear hx272_0
            try clear hx272_1
            try clear hx272_2
            try clear hx272_3
            try clear p2
            try clear p27
            try clear p270
            try clear p272
            try clear q2
            try clear q27
            try clear q270
            try clear q272
            obtain ⟨kq, x70_34, rfl, HA, HJ34, HO_3, HO_4, HB⟩ := hcut
            cases kq with
            | zero => exact absurd HA.out (by simp [mapmakerlaw20_NodingIdempotent.j3])
            | succ kj34 =>
             have H := HA.out
             clear HA
             simp only [mapmakerlaw20_NodingIdempotent.j3] at H
             by_cases c37 : x70_34 = true
             ·subst c37
              have H1 : (if 0 ≤ x5_1 then (if x5_1 < (t259.length : Int) then (if 0 ≤ x6_3 then (if x6_3 < (t259.length : Int) then (if ((!(((rd_T35 t259 x5_1).f0.f0) == ((rd_T35 t259 x6_3).f0.f0)) || (!(((rd_T35 t259 x5_1).f0.f1) == ((rd_T35 t259 x6_3).f0.f1)))) || ((!(((rd_T35 t259 x5_1).f1.f0) == ((rd_T35 t259 x6_3).f1.f0)) || (!(((rd_T35 t259 x5_1).f1.f1) == ((rd_T35 t259 x6_3).f1.f1)))))) = true then ((mapmakerref09_Relate.f kj34 ((rd_T35 t259 x5_1).f0.f0) ((rd_T35 t259 x5_1).f0.f1) ((rd_T35 t259 x5_1).f1.f0) ((rd_T35 t259 x5_1).f1.f1) ((rd_T35 t259 x6_3).f0.f0) ((rd_T35 t259 x6_3).f0.f1) ((rd_T35 t259 x6_3).f1.f0) ((rd_T35 t259 x6_3).f1.f1)).bind fun t282 => (if t282 = 3 then (some false) else (mapmakerlaw20_NodingIdempotent.l1 kj34 t259 t262 x5_1 (wrap64 (x6_3 + 1))))) else (mapmakerlaw20_NodingIdempotent.l1 kj34 t259 t262 x5_1 (wrap64 (x6_3 + 1)))) else (none)) else (none)) else (none)) else (none)) = some r := by rw [if_pos rfl] at H; exact H
              clear H
              have H := H1
              clear H1
              by_cases c38 : 0 ≤ x5_1
              ·rw [if_pos c38] at H
               have c38b0 : decide (0 ≤ x5_1) = true := decide_eq_true c38
               clear c38
               by_cases c39 : x5_1 < (t259.length : Int)
               ·rw [if_pos c39] at H
                have c39b0 : decide (x5_1 < (t259.length : Int)) = true := decide_eq_true c39
                clear c39
                by_cases c40 : 0 ≤ x6_3
                ·rw [if_pos c40] at H
                 have c40b0 : decide (0 ≤ x6_3) = true := decide_eq_true c40
                 clear c40
                 by_cases c41 : x6_3 < (t259.length : Int)
                 ·rw [if_pos c41] at H
                  have c41b0 : decide (x6_3 < (t259.length : Int)) = true := decide_eq_true c41
                  clear c41
                  by_cases c42 : ((!(((rd_T35 t259 x5_1).f0.f0) == ((rd_T35 t259 x6_3).f0.f0)) || (!(((rd_T35 t259 x5_1).f0.f1) == ((rd_T35 t259 x6_3).f0.f1)))) || ((!(((rd_T35 t259 x5_1).f1.f0) == ((rd_T35 t259 x6_3).f1.f0)) || (!(((rd_T35 t259 x5_1).f1.f1) == ((rd_T35 t259 x6_3).f1.f1)))))) = true
                  ·rw [if_pos c42] at H
                   have c42b0 : ((!(((rd_T35 t259 x5_1).f0.f0) == ((rd_T35 t259 x6_3).f0.f0)) || (!(((rd_T35 t259 x5_1).f0.f1) == ((rd_T35 t259 x6_3).f0.f1)))) || ((!(((rd_T35 t259 x5_1).f1.f0) == ((rd_T35 t259 x6_3).f1.f0)) || (!(((rd_T35 t259 x5_1).f1.f1) == ((rd_T35 t259 x6_3).f1.f1)))))) = true := c42
                   clear c42
                   replace H := Option.bind_eq_some_iff.mp H
                   obtain ⟨t282, A430, H⟩ := H
                   try dsimp only at H
                   have A43 := aM A430
                   clear A430
                   by_cases c44 : t282 = 3
                   ·rw [if_pos c44] at H
                    have c44b0 : (t282 == 3) = true := beq_iff_eq.mpr c44
                    have c44b1 : (t282 != 3) = false := bne_eq_false_iff_eq.mpr c44
                    clear c44
                    obtain rfl := Option.some.inj H
                    try go_wp2
                    replace HO_3 := aM (rD HO_3.out)
                    replace HO_4 := aM (rD HO_4.out)
                    replace HB := aM (bD HB.out)
                    have p278 : 0 ≤ (x5_1 : Int) := of_decide_eq_true (by first | (with_reducible assumption) | assumption)
                    have q278 : x5_1 < (t259.length : Int) := of_decide_eq_true (by first | (with_reducible assumption) | assumption)
                    obtain ⟨ad278, e278, hx278_0, hx278_1, hx278_2, hx278_3⟩ := at_T35 (rR HO_3.out).2.2 x5_1 p278 q278
                    cases e278
                    replace p278 := eq_true p278
                    replace q278 := eq_true q278
                    have p279 : 0 ≤ (x6_3 : Int) := of_decide_eq_true (by first | (with_reducible assumption) | assumption)
                    have q279 : x6_3 < (t259.length : Int) := of_decide_eq_true (by first | (with_reducible assumption) | assumption)
                    obtain ⟨ad279, e279, hx279_0, hx279_1, hx279_2, hx279_3⟩ := at_T35 (rR HO_3.out).2.2 x6_3 p279 q279
                    obtain rfl : ad278 = ad279 := (by injection e279)
                    replace p279 := eq_true p279
                    replace q279 := eq_true q279
                    have p280 : 0 ≤ (x5_1 : Int) := of_decide_eq_true (by first | (with_reducible assumption) | assumption)
                    have q280 : x5_1 < (t259.length : Int) := of_decide_eq_true (by first | (with_reducible assumption) | assumption)
                    obtain ⟨ad280, e280, hx280_0, hx280_1, hx280_2, hx280_3⟩ := at_T35 (rR HO_3.out).2.2 x5_1 p280 q280
                    obtain rfl : ad278 = ad280 := (by injection e280)
                    replace p280 := eq_true p280
                    replace q280 := eq_true q280
                    have p281 : 0 ≤ (x6_3 : Int) := of_decide_eq_true (by first | (with_reducible assumption) | assumption)
                    have q281 : x6_3 < (t259.length : Int) := of_decide_eq_true (by first | (with_reducible assumption) | assumption)
                    obtain ⟨ad281, e281, hx281_0, hx281_1, hx281_2, hx281_3⟩ := at_T35 (rR HO_3.out).2.2 x6_3 p281 q281
                    obtain rfl : ad278 = ad281 := (by injection e281)
                    replace p281 := eq_true p281
                    replace q281 := eq_true q281
                    refine start_ (n := 21) (S := fun w' => w'.cell? (ad278.add ((x5_1).toNat * 4)) = some (.int .i64 ((rd_T35 t259 x5_1).f0.f0)) ∧ w'.cell? ⟨(ad278.add ((x5_1).toNat * 4)).block, (ad278.add ((x5_1).toNat * 4)).off + 1, none⟩ = some (.int .i64 ((rd_T35 t259 x5_1).f0.f1)) ∧ w'.cell? ⟨(ad278.add ((x5_1).toNat * 4)).block, (ad278.add ((x5_1).toNat * 4)).off + 2, none⟩ = some (.int .i64 ((rd_T35 t259 x5_1).f1.f0)) ∧ w'.cell? ⟨(ad278.add ((x5_1).toNat * 4)).block, (ad278.add ((x5_1).toNat * 4)).off + 3, none⟩ = some (.int .i64 ((rd_T35 t259 x5_1).f1.f1)) ∧ w'.cell? (ad278.add ((x6_3).toNat * 4)) = some (.int .i64 ((rd_T35 t259 x6_3).f0.f0)) ∧ w'.cell? ⟨(ad278.add ((x6_3).toNat * 4)).block, (ad278.add ((x6_3).toNat * 4)).off + 1, none⟩ = some (.int .i64 ((rd_T35 t259 x6_3).f0.f1)) ∧ w'.cell? ⟨(ad278.add ((x6_3).toNat * 4)).block, (ad278.add ((x6_3).toNat * 4)).off + 2, none⟩ = some (.int .i64 ((rd_T35 t259 x6_3).f1.f0)) ∧ w'.cell? ⟨(ad278.add ((x6_3).toNat * 4)).block, (ad278.add ((x6_3).toNat * 4)).off + 3, none⟩ = some (.int .i64 ((rd_T35 t259 x6_3).f1.f1)) ∧ w'.cell? (ad278.add ((x5_1).toNat * 4)) = some (.int .i64 ((rd_T35 t259 x5_1).f0.f0)) ∧ w'.cell? ⟨(ad278.add ((x5_1).toNat * 4)).block, (ad278.add ((x5_1).toNat * 4)).off + 1, none⟩ = some (.int .i64 ((rd_T35 t259 x5_1).f0.f1)) ∧ w'.cell? ⟨(ad278.add ((x5_1).toNat * 4)).block, (ad278.add ((x5_1).toNat * 4)).off + 2, none⟩ = some (.int .i64 ((rd_T35 t259 x5_1).f1.f0)) ∧ w'.cell? ⟨(ad278.add ((x5_1).toNat * 4)).block, (ad278.add ((x5_1).toNat * 4)).off + 3, none⟩ = some (.int .i64 ((rd_T35 t259 x5_1).f1.f1)) ∧ w'.cell? (ad278.add ((x6_3).toNat * 4)) = some (.int .i64 ((rd_T35 t259 x6_3).f0.f0)) ∧ w'.cell? ⟨(ad278.add ((x6_3).toNat * 4)).block, (ad278.add ((x6_3).toNat * 4)).off + 1, none⟩ = some (.int .i64 ((rd_T35 t259 x6_3).f0.f1)) ∧ w'.cell? ⟨(ad278.add ((x6_3).toNat * 4)).block, (ad278.add ((x6_3).toNat * 4)).off + 2, none⟩ = some (.int .i64 ((rd_T35 t259 x6_3).f1.f0)) ∧ w'.cell? ⟨(ad278.add ((x6_3).toNat * 4)).block, (ad278.add ((x6_3).toNat * 4)).off + 3, none⟩ = some (.int .i64 ((rd_T35 t259 x6_3).f1.f1))) (ds := []) #[false, false, false, false, false, false, false, false, false, false, false, false, false, false, false, false, false, false, false, false, false] (by kernel_rfl) rfl rfl ⟨hx278_0, hx278_1, hx278_2, hx278_3, hx279_0, hx279_1, hx279_2, hx279_3, hx280_0, hx280_1, hx280_2, hx280_3, hx281_0, hx281_1, hx281_2, hx281_3⟩ (fun hHeld => ?_); refine with_tabW mapmakerlaw20_NodingIdempotent.tab14 mapmakerlaw20_NodingIdempotent.bits14 (fun HT_ HW_ => ?_)
                    generalize wc.drew = w45 at HO_3 HO_4 HB hx278_0 hx278_1 hx278_2 hx278_3 hx279_0 hx279_1 hx279_2 hx279_3 hx280_0 hx280_1 hx280_2 hx280_3 hx281_0 hx281_1 hx281_2 hx281_3 hHeld ⊢
                    refine pure_ (i := 0) (N := some 73) (v := ?_) (a' := ?_) (ba 21 1) rfl rfl (any_of HT_.out (by kernel_rfl)) (fun _ _ _ h => h) (Or.inl ⟨by rfl, ?_⟩) ?_ ?_
                    rotate_left
                    ·intro w'
                     go_simp
                     with_reducible rfl
                    rotate_left
                    ·simp only [Act.put, sA, sB, sC, i64_w, i32_w]
                     rfl
                    refine pure_ (i := 1) (N := some 74) (v := ?_) (a' := ?_) (ba 21 3) rfl rfl (any_of HT_.out (by kernel_rfl)) (fun _ _ _ h => h) (Or.inl ⟨by rfl, ?_⟩) ?_ ?_
                    rotate_left
                    ·intro w'
                     go_simp
                     with_reducible rfl
                    rotate_left
                    ·simp only [Act.put, sA, sB, sC, i64_w, i32_w]
                     rfl
                    refine pure_ (i := 2) (N := some 75) (v := ?_) (a' := ?_) (ba 21 7) rfl rfl (any_of HT_.out (by kernel_rfl)) (fun _ _ _ h => h) (Or.inl ⟨by rfl, ?_⟩) ?_ ?_
                    rotate_left
                    ·intro w'
                     go_simp
                     with_reducible rfl
                    rotate_left
                    ·simp only [Act.put, sA, sB, sC, i64_w, i32_w]
                     rfl
                    refine pure_ (i := 4) (N := some 77) (v := ?_) (a' := ?_) (ba 21 23) rfl rfl (any_of HT_.out (by kernel_rfl)) (fun _ _ _ h => h) (Or.inl ⟨by rfl, ?_⟩) ?_ ?_
                    rotate_left
                    ·intro w'
                     go_simp
                     with_reducible rfl
                    rotate_left
                    ·simp only [Act.put, sA, sB, sC, i64_w, i32_w]
                     rfl
                    refine pure_ (i := 5) (N := some 78) (v := ?_) (a' := ?_) (ba 21 55) rfl rfl (any_of HT_.out (by kernel_rfl)) (fun _ _ _ h => h) (Or.inl ⟨by rfl, ?_⟩) ?_ ?_
                    rotate_left
                    ·intro w'
                     go_simp
                     with_reducible rfl
                    rotate_left
                    ·simp only [Act.put, sA, sB, sC, i64_w, i32_w]
                     rfl
                    refine pure_ (i := 6) (N := some 79) (v := ?_) (a' := ?_) (ba 21 119) rfl rfl (any_of HT_.out (by kernel_rfl)) (fun _ _ _ h => h) (Or.inl ⟨by rfl, ?_⟩) ?_ ?_
                    rotate_left
                    ·intro w'
                     go_simp
                     with_reducible rfl
                    rotate_left
                    ·simp only [Act.put, sA, sB, sC, i64_w, i32_w]
                     rfl
                    refine take_ (i := 3) (N := some 76) (v := ?_) (a' := ?_) (ba 21 127) rfl rfl (take_ofW HT_.out HW_.out (by kernel_rfl)) (fun _ _ _ h => h) (Or.inl ⟨by rfl, ?_⟩) hHeld ?_ ?_
                    rotate_left
                    ·rintro w' ⟨s0, s1, s2, s3, s4, s5, s6, s7, s8, s9, s10, s11, s12, s13, s14, s15⟩
                     go_simp
                     with_reducible rfl
                    rotate_left
                    ·simp only [Act.put, sA, sB, sC, i64_w, i32_w]
                     rfl
                    refine take_ (i := 7) (N := some 80) (v := ?_) (a' := ?_) (ba 21 255) rfl rfl (take_ofW HT_.out HW_.out (by kernel_rfl)) (fun _ _ _ h => h) (Or.inl ⟨by rfl, ?_⟩) hHeld ?_ ?_
                    rotate_left
                    ·rintro w' ⟨s0, s1, s2, s3, s4, s5, s6, s7, s8, s9, s10, s11, s12, s13, s14, s15⟩
                     go_simp
                     with_reducible rfl
                    rotate_left
                    ·simp only [Act.put, sA, sB, sC, i64_w, i32_w]
                     rfl
                    refine pure_ (i := 8) (N := some 81) (v := ?_) (a' := ?_) (ba 21 511) rfl rfl (any_of HT_.out (by kernel_rfl)) (fun _ _ _ h => h) (Or.inl ⟨by rfl, ?_⟩) ?_ ?_
                    rotate_left
                    ·intro w'
                     go_simp
                     with_reducible rfl
                    rotate_left
                    ·simp only [Act.put, sA, sB, sC, i64_w, i32_w]
                     rfl
                    refine pure_ (i := 9) (N := some 82) (v := ?_) (a' := ?_) (ba 21 1023) rfl rfl (any_of HT_.out (by kernel_rfl)) (fun _ _ _ h => h) (Or.inl ⟨by rfl, ?_⟩) ?_ ?_
                    rotate_left
                    ·intro w'
                     go_simp
                     with_reducible rfl
                    rotate_left
                    ·simp only [Act.put, sA, sB, sC, i64_w, i32_w]
                     rfl
                    refine pure_ (i := 10) (N := some 83) (v := ?_) (a' := ?_) (ba 21 2047) rfl rfl (any_of HT_.out (by kernel_rfl)) (fun _ _ _ h => h) (Or.inl ⟨by rfl, ?_⟩) ?_ ?_
                    rotate_left
                    ·intro w'
                     go_simp
                     with_reducible rfl
                    rotate_left
                    ·simp only [Act.put, sA, sB, sC, i64_w, i32_w]
                     rfl
                    refine pure_ (i := 11) (N := some 84) (v := ?_) (a' := ?_) (ba 21 4095) rfl rfl (any_of HT_.out (by kernel_rfl)) (fun _ _ _ h => h) (Or.inl ⟨by rfl, ?_⟩) ?_ ?_
                    rotate_left
                    ·intro w'
                     go_simp
                     with_reducible rfl
                    rotate_left
                    ·simp only [Act.put, sA, sB, sC, i64_w, i32_w]
                     rfl
                    refine pure_ (i := 12) (N := some 85) (v := ?_) (a' := ?_) (ba 21 8191) rfl rfl (any_of HT_.out (by kernel_rfl)) (fun _ _ _ h => h) (Or.inl ⟨by rfl, ?_⟩) ?_ ?_
                    rotate_left
                    ·intro w'
                     go_simp
                     with_reducible rfl
                    rotate_left
                    ·simp only [Act.put, sA, sB, sC, i64_w, i32_w]
                     rfl
                    refine pure_ (i := 14) (N := some 87) (v := ?_) (a' := ?_) (ba 21 24575) rfl rfl (any_of HT_.out (by kernel_rfl)) (fun _ _ _ h => h) (Or.inl ⟨by rfl, ?_⟩) ?_ ?_
                    rotate_left
                    ·intro w'
                     go_simp
                     with_reducible rfl
                    rotate_left
                    ·simp only [Act.put, sA, sB, sC, i64_w, i32_w]
                     rfl
                    refine pure_ (i := 15) (N := some 88) (v := ?_) (a' := ?_) (ba 21 57343) rfl rfl (any_of HT_.out (by kernel_rfl)) (fun _ _ _ h => h) (Or.inl ⟨by rfl, ?_⟩) ?_ ?_
                    rotate_left
                    ·intro w'
                     go_simp
                     with_reducible rfl
                    rotate_left
                    ·simp only [Act.put, sA, sB, sC, i64_w, i32_w]
                     rfl
                    refine pure_ (i := 16) (N := some 89) (v := ?_) (a' := ?_) (ba 21 122879) rfl rfl (any_of HT_.out (by kernel_rfl)) (fun _ _ _ h => h) (Or.inl ⟨by rfl, ?_⟩) ?_ ?_
                    rotate_left
                    ·intro w'
                     go_simp
                     with_reducible rfl
                    rotate_left
                    ·simp only [Act.put, sA, sB, sC, i64_w, i32_w]
                     rfl
                    refine take_ (i := 13) (N := some 86) (v := ?_) (a' := ?_) (ba 21 131071) rfl rfl (take_ofW HT_.out HW_.out (by kernel_rfl)) (fun _ _ _ h => h) (Or.inl ⟨by rfl, ?_⟩) hHeld ?_ ?_
                    rotate_left
                    ·rintro w' ⟨s0, s1, s2, s3, s4, s5, s6, s7, s8, s9, s10, s11, s12, s13, s14, s15⟩
                     go_simp
                     with_reducible rfl
                    rotate_left
                    ·simp only [Act.put, sA, sB, sC, i64_w, i32_w]
                     rfl
                    refine take_ (i := 17) (N := some 90) (v := ?_) (a' := ?_) (ba 21 262143) rfl rfl (take_ofW HT_.out HW_.out (by kernel_rfl)) (fun _ _ _ h => h) (Or.inl ⟨by rfl, ?_⟩) hHeld ?_ ?_
                    rotate_left
                    ·rintro w' ⟨s0, s1, s2, s3, s4, s5, s6, s7, s8, s9, s10, s11, s12, s13, s14, s15⟩
                     go_simp
                     with_reducible rfl
                    rotate_left
                    ·simp only [Act.put, sA, sB, sC, i64_w, i32_w]
                     rfl
                    refine one_ (i := 18) (N := some 91) (ba 21 524287) rfl rfl (one_of HT_.out (by kernel_rfl)) (by decide) (fun K hK => ?_)
                    refine goes_ Try.func27 (by kernel_rfl) rfl #[.agg #[.int .i64 ((rd_T35 t259 x5_1).f0.f0), .int .i64 ((rd_T35 t259 x5_1).f0.f1), .int .i64 ((rd_T35 t259 x5_1).f1.f0), .int .i64 ((rd_T35 t259 x5_1).f1.f1)], .agg #[.int .i64 ((rd_T35 t259 x6_3).f0.f0), .int .i64 ((rd_T35 t259 x6_3).f0.f1), .int .i64 ((rd_T35 t259 x6_3).f1.f0), .int .i64 ((rd_T35 t259 x6_3).f1.f1)]] (by rfl) rfl rfl (by (try simp only [List.map_toArray, List.map_cons, List.map_nil]); first | done | rfl | (simp only [List.length_drop, List.length_take]; rfl)) ?_
                    with_reducible refine (mapmakerref09_Relate.calls kj34 ((rd_T35 t259 x5_1).f0.f0) ((rd_T35 t259 x5_1).f0.f1) ((rd_T35 t259 x5_1).f1.f0) ((rd_T35 t259 x5_1).f1.f1) ((rd_T35 t259 x6_3).f0.f0) ((rd_T35 t259 x6_3).f0.f1) ((rd_T35 t259 x6_3).f1.f0) ((rd_T35 t259 x6_3).f1.f1) t282 _ A43.out).mono ?_
                    rintro e w46 ⟨rfl, hb⟩
                    obtain ⟨q0, q1, q2, q3, q4, q5, q6, q7, q8, q9, q10, q11, q12, q13, q14, q15⟩ := hHeld
                    have HS_ := And.intro (hs hb q0) <| And.intro (hs hb q1) <| And.intro (hs hb q2) <| And.intro (hs hb q3) <| And.intro (hs hb q4) <| And.intro (hs hb q5) <| And.intro (hs hb q6) <| And.intro (hs hb q7) <| And.intro (hs hb q8) <| And.intro (hs hb q9) <| And.intro (hs hb q10) <| And.intro (hs hb q11) <| And.intro (hs hb q12) <| And.intro (hs hb q13) <| And.intro (hs hb q14) <| hs hb q15
                    refine ⟨_, rfl, ?_⟩
                    replace HO_3 := aM (rB (rl HO_3) hb)
                    replace HO_4 := aM (rB (rl HO_4) hb)
                    replace HB := aM (bS (bl) hb)
                    (try clear hb)
                    (try clear hb2)
                    (try clear hk)
                    (try clear hi)
                    refine hK.out _ _ HS_ (fun hHeld => ?_)
                    clear hK K
                    refine norm_ (a' := ?_) ?_ ?_
                    rotate_left
                    ·show Act.put _ (some 91) _ = _
                     simp only [Act.put, sA, sB, sC, i64_w, i32_w]
                     rfl
                    refine pure_ (i := 19) (N := some 92) (v := ?_) (a' := ?_) (ba 21 1048575) rfl rfl (any_of HT_.out (by kernel_rfl)) (fun _ _ _ h => h) (Or.inl ⟨by rfl, ?_⟩) ?_ ?_
                    rotate_left
                    ·intro w'
                     go_simp
                     with_reducible rfl
                    rotate_left
                    ·simp only [Act.put, sA, sB, sC, i64_w, i32_w]
                     rfl
                    refine pure_ (i := 20) (N := some 93) (v := ?_) (a' := ?_) (ba 21 2097151) rfl rfl (any_of HT_.out (by kernel_rfl)) (fun _ _ _ h => h) (Or.inl ⟨by rfl, ?_⟩) ?_ ?_
                    rotate_left
                    ·intro w'
                     go_simp
                     with_reducible rfl
                    rotate_left
                    ·simp only [Act.put, sA, sB, sC, i64_w, i32_w]
                     rfl
                    refine done_ (done_of HT_.out (by kernel_rfl)) ?_
                    try go_wp2
                    go_ret
                    exact ⟨by first | rfl | (simp [errW_none, errW_some] <;> rfl) | (simp [*, errW_none, errW_some] <;> rfl), bl⟩
                   ·rw [if_neg c44] at H
                    have c44b0 : (t282 == 3) = false := beq_eq_false_iff_ne.mpr c44
                    have c44b1 : (t282 != 3) = true := bne_iff_ne.mpr c44
                    have H' := aM H
                    clear H
                    try go_wp2
                    replace HO_3 := aM (rD HO_3.out)
                    replace HO_4 := aM (rD HO_4.out)
                    replace HB := aM (bD HB.out)
                    have p278 : 0 ≤ (x5_1 : Int) := of_decide_eq_true (by first | (with_reducible assumption) | assumption)
                    have q278 : x5_1 < (t259.length : Int) := of_decide_eq_true (by first | (with_reducible assumption) | assumption)
                    obtain ⟨ad278, e278, hx278_0, hx278_1, hx278_2, hx278_3⟩ := at_T35 (rR HO_3.out).2.2 x5_1 p278 q278
                    cases e278
                    replace p278 := eq_true p278
                    replace q278 := eq_true q278
                    have p279 : 0 ≤ (x6_3 : Int) := of_decide_eq_true (by first | (with_reducible assumption) | assumption)
                    have q279 : x6_3 < (t259.length : Int) := of_decide_eq_true (by first | (with_reducible assumption) | assumption)
                    obtain ⟨ad279, e279, hx279_0, hx279_1, hx279_2, hx279_3⟩ := at_T35 (rR HO_3.out).2.2 x6_3 p279 q279
                    obtain rfl : ad278 = ad279 := (by injection e279)
                    replace p279 := eq_true p279
                    replace q279 := eq_true q279
                    have p280 : 0 ≤ (x5_1 : Int) := of_decide_eq_true (by first | (with_reducible assumption) | assumption)
                    have q280 : x5_1 < (t259.length : Int) := of_decide_eq_true (by first | (with_reducible assumption) | assumption)
                    obtain ⟨ad280, e280, hx280_0, hx280_1, hx280_2, hx280_3⟩ := at_T35 (rR HO_3.out).2.2 x5_1 p280 q280
                    obtain rfl : ad278 = ad280 := (by injection e280)
                    replace p280 := eq_true p280
                    replace q280 := eq_true q280
                    have p281 : 0 ≤ (x6_3 : Int) := of_decide_eq_true (by first | (with_reducible assumption) | assumption)
                    have q281 : x6_3 < (t259.length : Int) := of_decide_eq_true (by first | (with_reducible assumption) | assumption)
                    obtain ⟨ad281, e281, hx281_0, hx281_1, hx281_2, hx281_3⟩ := at_T35 (rR HO_3.out).2.2 x6_3 p281 q281
                    obtain rfl : ad278 = ad281 := (by injection e281)
                    replace p281 := eq_true p281
                    replace q281 := eq_true q281
                    refine start_ (n := 21) (S := fun w' => w'.cell? (ad278.add ((x5_1).toNat * 4)) = some (.int .i64 ((rd_T35 t259 x5_1).f0.f0)) ∧ w'.cell? ⟨(ad278.add ((x5_1).toNat * 4)).block, (ad278.add ((x5_1).toNat * 4)).off + 1, none⟩ = some (.int .i64 ((rd_T35 t259 x5_1).f0.f1)) ∧ w'.cell? ⟨(ad278.add ((x5_1).toNat * 4)).block, (ad278.add ((x5_1).toNat * 4)).off + 2, none⟩ = some (.int .i64 ((rd_T35 t259 x5_1).f1.f0)) ∧ w'.cell? ⟨(ad278.add ((x5_1).toNat * 4)).block, (ad278.add ((x5_1).toNat * 4)).off + 3, none⟩ = some (.int .i64 ((rd_T35 t259 x5_1).f1.f1)) ∧ w'.cell? (ad278.add ((x6_3).toNat * 4)) = some (.int .i64 ((rd_T35 t259 x6_3).f0.f0)) ∧ w'.cell? ⟨(ad278.add ((x6_3).toNat * 4)).block, (ad278.add ((x6_3).toNat * 4)).off + 1, none⟩ = some (.int .i64 ((rd_T35 t259 x6_3).f0.f1)) ∧ w'.cell? ⟨(ad278.add ((x6_3).toNat * 4)).block, (ad278.add ((x6_3).toNat * 4)).off + 2, none⟩ = some (.int .i64 ((rd_T35 t259 x6_3).f1.f0)) ∧ w'.cell? ⟨(ad278.add ((x6_3).toNat * 4)).block, (ad278.add ((x6_3).toNat * 4)).off + 3, none⟩ = some (.int .i64 ((rd_T35 t259 x6_3).f1.f1)) ∧ w'.cell? (ad278.add ((x5_1).toNat * 4)) = some (.int .i64 ((rd_T35 t259 x5_1).f0.f0)) ∧ w'.cell? ⟨(ad278.add ((x5_1).toNat * 4)).block, (ad278.add ((x5_1).toNat * 4)).off + 1, none⟩ = some (.int .i64 ((rd_T35 t259 x5_1).f0.f1)) ∧ w'.cell? ⟨(ad278.add ((x5_1).toNat * 4)).block, (ad278.add ((x5_1).toNat * 4)).off + 2, none⟩ = some (.int .i64 ((rd_T35 t259 x5_1).f1.f0)) ∧ w'.cell? ⟨(ad278.add ((x5_1).toNat * 4)).block, (ad278.add ((x5_1).toNat * 4)).off + 3, none⟩ = some (.int .i64 ((rd_T35 t259 x5_1).f1.f1)) ∧ w'.cell? (ad278.add ((x6_3).toNat * 4)) = some (.int .i64 ((rd_T35 t259 x6_3).f0.f0)) ∧ w'.cell? ⟨(ad278.add ((x6_3).toNat * 4)).block, (ad278.add ((x6_3).toNat * 4)).off + 1, none⟩ = some (.int .i64 ((rd_T35 t259 x6_3).f0.f1)) ∧ w'.cell? ⟨(ad278.add ((x6_3).toNat * 4)).block, (ad278.add ((x6_3).toNat * 4)).off + 2, none⟩ = some (.int .i64 ((rd_T35 t259 x6_3).f1.f0)) ∧ w'.cell? ⟨(ad278.add ((x6_3).toNat * 4)).block, (ad278.add ((x6_3).toNat * 4)).off + 3, none⟩ = some (.int .i64 ((rd_T35 t259 x6_3).f1.f1))) (ds := []) #[false, false, false, false, false, false, false, false, false, false, false, false, false, false, false, false, false, false, false, false, false] (by kernel_rfl) rfl rfl ⟨hx278_0, hx278_1, hx278_2, hx278_3, hx279_0, hx279_1, hx279_2, hx279_3, hx280_0, hx280_1, hx280_2, hx280_3, hx281_0, hx281_1, hx281_2, hx281_3⟩ (fun hHeld => ?_); refine with_tabW mapmakerlaw20_NodingIdempotent.tab14 mapmakerlaw20_NodingIdempotent.bits14 (fun HT_ HW_ => ?_)
                    generalize wc.drew = w47 at HO_3 HO_4 HB hx278_0 hx278_1 hx278_2 hx278_3 hx279_0 hx279_1 hx279_2 hx279_3 hx280_0 hx280_1 hx280_2 hx280_3 hx281_0 hx281_1 hx281_2 hx281_3 hHeld ⊢
                    refine pure_ (i := 0) (N := some 73) (v := ?_) (a' := ?_) (ba 21 1) rfl rfl (any_of HT_.out (by kernel_rfl)) (fun _ _ _ h => h) (Or.inl ⟨by rfl, ?_⟩) ?_ ?_
                    rotate_left
                    ·intro w'
                     go_simp
                     with_reducible rfl
                    rotate_left
                    ·simp only [Act.put, sA, sB, sC, i64_w, i32_w]
                     rfl
                    refine pure_ (i := 1) (N := some 74) (v := ?_) (a' := ?_) (ba 21 3) rfl rfl (any_of HT_.out (by kernel_rfl)) (fun _ _ _ h => h) (Or.inl ⟨by rfl, ?_⟩) ?_ ?_
                    rotate_left
                    ·intro w'
                     go_simp
                     with_reducible rfl
                    rotate_left
                    ·simp only [Act.put, sA, sB, sC, i64_w, i32_w]
                     rfl
                    refine pure_ (i := 2) (N := some 75) (v := ?_) (a' := ?_) (ba 21 7) rfl rfl (any_of HT_.out (by kernel_rfl)) (fun _ _ _ h => h) (Or.inl ⟨by rfl, ?_⟩) ?_ ?_
                    rotate_left
                    ·intro w'
                     go_simp
                     with_reducible rfl
                    rotate_left
                    ·simp only [Act.put, sA, sB, sC, i64_w, i32_w]
                     rfl
                    refine pure_ (i := 4) (N := some 77) (v := ?_) (a' := ?_) (ba 21 23) rfl rfl (any_of HT_.out (by kernel_rfl)) (fun _ _ _ h => h) (Or.inl ⟨by rfl, ?_⟩) ?_ ?_
                    rotate_left
                    ·intro w'
                     go_simp
                     with_reducible rfl
                    rotate_left
                    ·simp only [Act.put, sA, sB, sC, i64_w, i32_w]
                     rfl
                    refine pure_ (i := 5) (N := some 78) (v := ?_) (a' := ?_) (ba 21 55) rfl rfl (any_of HT_.out (by kernel_rfl)) (fun _ _ _ h => h) (Or.inl ⟨by rfl, ?_⟩) ?_ ?_
                    rotate_left
                    ·intro w'
                     go_simp
                     with_reducible rfl
                    rotate_left
                    ·simp only [Act.put, sA, sB, sC, i64_w, i32_w]
                     rfl
                    refine pure_ (i := 6) (N := some 79) (v := ?_) (a' := ?_) (ba 21 119) rfl rfl (any_of HT_.out (by kernel_rfl)) (fun _ _ _ h => h) (Or.inl ⟨by rfl, ?_⟩) ?_ ?_
                    rotate_left
                    ·intro w'
                     go_simp
                     with_reducible rfl
                    rotate_left
                    ·simp only [Act.put, sA, sB, sC, i64_w, i32_w]
                     rfl
                    refine take_ (i := 3) (N := some 76) (v := ?_) (a' := ?_) (ba 21 127) rfl rfl (take_ofW HT_.out HW_.out (by kernel_rfl)) (fun _ _ _ h => h) (Or.inl ⟨by rfl, ?_⟩) hHeld ?_ ?_
                    rotate_left
                    ·rintro w' ⟨s0, s1, s2, s3, s4, s5, s6, s7, s8, s9, s10, s11, s12, s13, s14, s15⟩
                     go_simp
                     with_reducible rfl
                    rotate_left
                    ·simp only [Act.put, sA, sB, sC, i64_w, i32_w]
                     rfl
                    refine take_ (i := 7) (N := some 80) (v := ?_) (a' := ?_) (ba 21 255) rfl rfl (take_ofW HT_.out HW_.out (by kernel_rfl)) (fun _ _ _ h => h) (Or.inl ⟨by rfl, ?_⟩) hHeld ?_ ?_
                    rotate_left
                    ·rintro w' ⟨s0, s1, s2, s3, s4, s5, s6, s7, s8, s9, s10, s11, s12, s13, s14, s15⟩
                     go_simp
                     with_reducible rfl
                    rotate_left
                    ·simp only [Act.put, sA, sB, sC, i64_w, i32_w]
                     rfl
                    refine pure_ (i := 8) (N := some 81) (v := ?_) (a' := ?_) (ba 21 511) rfl rfl (any_of HT_.out (by kernel_rfl)) (fun _ _ _ h => h) (Or.inl ⟨by rfl, ?_⟩) ?_ ?_
                    rotate_left
                    ·intro w'
                     go_simp
                     with_reducible rfl
                    rotate_left
                    ·simp only [Act.put, sA, sB, sC, i64_w, i32_w]
                     rfl
                    refine pure_ (i := 9) (N := some 82) (v := ?_) (a' := ?_) (ba 21 1023) rfl rfl (any_of HT_.out (by kernel_rfl)) (fun _ _ _ h => h) (Or.inl ⟨by rfl, ?_⟩) ?_ ?_
                    rotate_left
                    ·intro w'
                     go_simp
                     with_reducible rfl
                    rotate_left
                    ·simp only [Act.put, sA, sB, sC, i64_w, i32_w]
                     rfl
                    refine pure_ (i := 10) (N := some 83) (v := ?_) (a' := ?_) (ba 21 2047) rfl rfl (any_of HT_.out (by kernel_rfl)) (fun _ _ _ h => h) (Or.inl ⟨by rfl, ?_⟩) ?_ ?_
                    rotate_left
                    ·intro w'
                     go_simp
                     with_reducible rfl
                    rotate_left
                    ·simp only [Act.put, sA, sB, sC, i64_w, i32_w]
                     rfl
                    refine pure_ (i := 11) (N := some 84) (v := ?_) (a' := ?_) (ba 21 4095) rfl rfl (any_of HT_.out (by kernel_rfl)) (fun _ _ _ h => h) (Or.inl ⟨by rfl, ?_⟩) ?_ ?_
                    rotate_left
                    ·intro w'
                     go_simp
                     with_reducible rfl
                    rotate_left
                    ·simp only [Act.put, sA, sB, sC, i64_w, i32_w]
                     rfl
                    refine pure_ (i := 12) (N := some 85) (v := ?_) (a' := ?_) (ba 21 8191) rfl rfl (any_of HT_.out (by kernel_rfl)) (fun _ _ _ h => h) (Or.inl ⟨by rfl, ?_⟩) ?_ ?_
                    rotate_left
                    ·intro w'
                     go_simp
                     with_reducible rfl
                    rotate_left
                    ·simp only [Act.put, sA, sB, sC, i64_w, i32_w]
                     rfl
                    refine pure_ (i := 14) (N := some 87) (v := ?_) (a' := ?_) (ba 21 24575) rfl rfl (any_of HT_.out (by kernel_rfl)) (fun _ _ _ h => h) (Or.inl ⟨by rfl, ?_⟩) ?_ ?_
                    rotate_left
                    ·intro w'
                     go_simp
                     with_reducible rfl
                    rotate_left
                    ·simp only [Act.put, sA, sB, sC, i64_w, i32_w]
                     rfl
                    refine pure_ (i := 15) (N := some 88) (v := ?_) (a' := ?_) (ba 21 57343) rfl rfl (any_of HT_.out (by kernel_rfl)) (fun _ _ _ h => h) (Or.inl ⟨by rfl, ?_⟩) ?_ ?_
                    rotate_left
                    ·intro w'
                     go_simp
                     with_reducible rfl
                    rotate_left
                    ·simp only [Act.put, sA, sB, sC, i64_w, i32_w]
                     rfl
                    refine pure_ (i := 16) (N := some 89) (v := ?_) (a' := ?_) (ba 21 122879) rfl rfl (any_of HT_.out (by kernel_rfl)) (fun _ _ _ h => h) (Or.inl ⟨by rfl, ?_⟩) ?_ ?_
                    rotate_left
                    ·intro w'
                     go_simp
                     with_reducible rfl
                    rotate_left
                    ·simp only [Act.put, sA, sB, sC, i64_w, i32_w]
                     rfl
                    refine take_ (i := 13) (N := some 86) (v := ?_) (a' := ?_) (ba 21 131071) rfl rfl (take_ofW HT_.out HW_.out (by kernel_rfl)) (fun _ _ _ h => h) (Or.inl ⟨by rfl, ?_⟩) hHeld ?_ ?_
                    rotate_left
                    ·rintro w' ⟨s0, s1, s2, s3, s4, s5, s6, s7, s8, s9, s10, s11, s12, s13, s14, s15⟩
                     go_simp
                     with_reducible rfl
                    rotate_left
                    ·simp only [Act.put, sA, sB, sC, i64_w, i32_w]
                     rfl
                    refine take_ (i := 17) (N := some 90) (v := ?_) (a' := ?_) (ba 21 262143) rfl rfl (take_ofW HT_.out HW_.out (by kernel_rfl)) (fun _ _ _ h => h) (Or.inl ⟨by rfl, ?_⟩) hHeld ?_ ?_
                    rotate_left
                    ·rintro w' ⟨s0, s1, s2, s3, s4, s5, s6, s7, s8, s9, s10, s11, s12, s13, s14, s15⟩
                     go_simp
                     with_reducible rfl
                    rotate_left
                    ·simp only [Act.put, sA, sB, sC, i64_w, i32_w]
                     rfl
                    refine one_ (i := 18) (N := some 91) (ba 21 524287) rfl rfl (one_of HT_.out (by kernel_rfl)) (by decide) (fun K hK => ?_)
                    refine goes_ Try.func27 (by kernel_rfl) rfl #[.agg #[.int .i64 ((rd_T35 t259 x5_1).f0.f0), .int .i64 ((rd_T35 t259 x5_1).f0.f1), .int .i64 ((rd_T35 t259 x5_1).f1.f0), .int .i64 ((rd_T35 t259 x5_1).f1.f1)], .agg #[.int .i64 ((rd_T35 t259 x6_3).f0.f0), .int .i64 ((rd_T35 t259 x6_3).f0.f1), .int .i64 ((rd_T35 t259 x6_3).f1.f0), .int .i64 ((rd_T35 t259 x6_3).f1.f1)]] (by rfl) rfl rfl (by (try simp only [List.map_toArray, List.map_cons, List.map_nil]); first | done | rfl | (simp only [List.length_drop, List.length_take]; rfl)) ?_
                    with_reducible refine (mapmakerref09_Relate.calls kj34 ((rd_T35 t259 x5_1).f0.f0) ((rd_T35 t259 x5_1).f0.f1) ((rd_T35 t259 x5_1).f1.f0) ((rd_T35 t259 x5_1).f1.f1) ((rd_T35 t259 x6_3).f0.f0) ((rd_T35 t259 x6_3).f0.f1) ((rd_T35 t259 x6_3).f1.f0) ((rd_T35 t259 x6_3).f1.f1) t282 _ A43.out).mono ?_
                    rintro e w48 ⟨rfl, hb⟩
                    obtain ⟨q0, q1, q2, q3, q4, q5, q6, q7, q8, q9, q10, q11, q12, q13, q14, q15⟩ := hHeld
                    have HS_ := And.intro (hs hb q0) <| And.intro (hs hb q1) <| And.intro (hs hb q2) <| And.intro (hs hb q3) <| And.intro (hs hb q4) <| And.intro (hs hb q5) <| And.intro (hs hb q6) <| And.intro (hs hb q7) <| And.intro (hs hb q8) <| And.intro (hs hb q9) <| And.intro (hs hb q10) <| And.intro (hs hb q11) <| And.intro (hs hb q12) <| And.intro (hs hb q13) <| And.intro (hs hb q14) <| hs hb q15
                    refine ⟨_, rfl, ?_⟩
                    replace HO_3 := aM (rB (rl HO_3) hb)
                    replace HO_4 := aM (rB (rl HO_4) hb)
                    replace HB := aM (bS (bl) hb)
                    (try clear hb)
                    (try clear hb2)
                    (try clear hk)
                    (try clear hi)
                    refine hK.out _ _ HS_ (fun hHeld => ?_)
                    clear hK K
                    refine norm_ (a' := ?_) ?_ ?_
                    rotate_left
                    ·show Act.put _ (some 91) _ = _
                     simp only [Act.put, sA, sB, sC, i64_w, i32_w]
                     rfl
                    refine pure_ (i := 19) (N := some 92) (v := ?_) (a' := ?_) (ba 21 1048575) rfl rfl (any_of HT_.out (by kernel_rfl)) (fun _ _ _ h => h) (Or.inl ⟨by rfl, ?_⟩) ?_ ?_
                    rotate_left
                    ·intro w'
                     go_simp
                     with_reducible rfl
                    rotate_left
                    ·simp only [Act.put, sA, sB, sC, i64_w, i32_w]
                     rfl
                    refine pure_ (i := 20) (N := some 93) (v := ?_) (a' := ?_) (ba 21 2097151) rfl rfl (any_of HT_.out (by kernel_rfl)) (fun _ _ _ h => h) (Or.inl ⟨by rfl, ?_⟩) ?_ ?_
                    rotate_left
                    ·intro w'
                     go_simp
                     with_reducible rfl
                    rotate_left
                    ·simp only [Act.put, sA, sB, sC, i64_w, i32_w]
                     rfl
                    refine done_ (done_of HT_.out (by kernel_rfl)) ?_
                    try go_wp2
                    go_roundg kj34
                    case measure => have := HK1.out; have := HJ14.out; have := HK3.out; have := HJ34.out; omega
                    case rel => exact ⟨(wrap64 (x6_3 + 1)), (by first | rfl | (simp; done) | (simp [*]; done)), H', ⟨by have := HK1.out; have := HJ14.out; have := HK3.out; have := HJ34.out; omega⟩, ⟨by (with_reducible repeat (first | apply rA | apply rN | apply rD)); exact HO_3.out⟩, ⟨by (with_reducible repeat (first | apply rA | apply rN | apply rD)); exact HO_4.out⟩, ⟨bl⟩⟩
                  ·rw [if_neg c42] at H
                   have c42b0 : ((!(((rd_T35 t259 x5_1).f0.f0) == ((rd_T35 t259 x6_3).f0.f0)) || (!(((rd_T35 t259 x5_1).f0.f1) == ((rd_T35 t259 x6_3).f0.f1)))) || ((!(((rd_T35 t259 x5_1).f1.f0) == ((rd_T35 t259 x6_3).f1.f0)) || (!(((rd_T35 t259 x5_1).f1.f1) == ((rd_T35 t259 x6_3).f1.f1)))))) = false := by simpa using c42
                   clear c42
                   have H' := aM H
                   clear H
                   try go_wp2
                   replace HO_3 := aM (rD HO_3.out)
                   replace HO_4 := aM (rD HO_4.out)
                   replace HB := aM (bD HB.out)
                   have p278 : 0 ≤ (x5_1 : Int) := of_decide_eq_true (by first | (with_reducible assumption) | assumption)
                   have q278 : x5_1 < (t259.length : Int) := of_decide_eq_true (by first | (with_reducible assumption) | assumption)
                   obtain ⟨ad278, e278, hx278_0, hx278_1, hx278_2, hx278_3⟩ := at_T35 (rR HO_3.out).2.2 x5_1 p278 q278
                   cases e278
                   replace p278 := eq_true p278
                   replace q278 := eq_true q278
                   have p279 : 0 ≤ (x6_3 : Int) := of_decide_eq_true (by first | (with_reducible assumption) | assumption)
                   have q279 : x6_3 < (t259.length : Int) := of_decide_eq_true (by first | (with_reducible assumption) | assumption)
                   obtain ⟨ad279, e279, hx279_0, hx279_1, hx279_2, hx279_3⟩ := at_T35 (rR HO_3.out).2.2 x6_3 p279 q279
                   obtain rfl : ad278 = ad279 := (by injection e279)
                   replace p279 := eq_true p279
                   replace q279 := eq_true q279
                   refine start_ (n := 21) (S := fun w' => w'.cell? (ad278.add ((x5_1).toNat * 4)) = some (.int .i64 ((rd_T35 t259 x5_1).f0.f0)) ∧ w'.cell? ⟨(ad278.add ((x5_1).toNat * 4)).block, (ad278.add ((x5_1).toNat * 4)).off + 1, none⟩ = some (.int .i64 ((rd_T35 t259 x5_1).f0.f1)) ∧ w'.cell? ⟨(ad278.add ((x5_1).toNat * 4)).block, (ad278.add ((x5_1).toNat * 4)).off + 2, none⟩ = some (.int .i64 ((rd_T35 t259 x5_1).f1.f0)) ∧ w'.cell? ⟨(ad278.add ((x5_1).toNat * 4)).block, (ad278.add ((x5_1).toNat * 4)).off + 3, none⟩ = some (.int .i64 ((rd_T35 t259 x5_1).f1.f1)) ∧ w'.cell? (ad278.add ((x6_3).toNat * 4)) = some (.int .i64 ((rd_T35 t259 x6_3).f0.f0)) ∧ w'.cell? ⟨(ad278.add ((x6_3).toNat * 4)).block, (ad278.add ((x6_3).toNat * 4)).off + 1, none⟩ = some (.int .i64 ((rd_T35 t259 x6_3).f0.f1)) ∧ w'.cell? ⟨(ad278.add ((x6_3).toNat * 4)).block, (ad278.add ((x6_3).toNat * 4)).off + 2, none⟩ = some (.int .i64 ((rd_T35 t259 x6_3).f1.f0)) ∧ w'.cell? ⟨(ad278.add ((x6_3).toNat * 4)).block, (ad278.add ((x6_3).toNat * 4)).off + 3, none⟩ = some (.int .i64 ((rd_T35 t259 x6_3).f1.f1))) (ds := []) #[false, false, false, false, false, false, false, false, false, false, false, false, false, false, false, false, false, false, false, false, false] (by kernel_rfl) rfl rfl ⟨hx278_0, hx278_1, hx278_2, hx278_3, hx279_0, hx279_1, hx279_2, hx279_3⟩ (fun hHeld => ?_); refine with_tabW mapmakerlaw20_NodingIdempotent.tab14 mapmakerlaw20_NodingIdempotent.bits14 (fun HT_ HW_ => ?_)
                   generalize wc.drew = w49 at HO_3 HO_4 HB hx278_0 hx278_1 hx278_2 hx278_3 hx279_0 hx279_1 hx279_2 hx279_3 hHeld ⊢
                   refine pure_ (i := 0) (N := some 73) (v := ?_) (a' := ?_) (ba 21 1) rfl rfl (any_of HT_.out (by kernel_rfl)) (fun _ _ _ h => h) (Or.inl ⟨by rfl, ?_⟩) ?_ ?_
                   rotate_left
                   ·intro w'
                    go_simp
                    with_reducible rfl
                   rotate_left
                   ·simp only [Act.put, sA, sB, sC, i64_w, i32_w]
                    rfl
                   refine pure_ (i := 1) (N := some 74) (v := ?_) (a' := ?_) (ba 21 3) rfl rfl (any_of HT_.out (by kernel_rfl)) (fun _ _ _ h => h) (Or.inl ⟨by rfl, ?_⟩) ?_ ?_
                   rotate_left
                   ·intro w'
                    go_simp
                    with_reducible rfl
                   rotate_left
                   ·simp only [Act.put, sA, sB, sC, i64_w, i32_w]
                    rfl
                   refine pure_ (i := 2) (N := some 75) (v := ?_) (a' := ?_) (ba 21 7) rfl rfl (any_of HT_.out (by kernel_rfl)) (fun _ _ _ h => h) (Or.inl ⟨by rfl, ?_⟩) ?_ ?_
                   rotate_left
                   ·intro w'
                    go_simp
                    with_reducible rfl
                   rotate_left
                   ·simp only [Act.put, sA, sB, sC, i64_w, i32_w]
                    rfl
                   refine pure_ (i := 4) (N := some 77) (v := ?_) (a' := ?_) (ba 21 23) rfl rfl (any_of HT_.out (by kernel_rfl)) (fun _ _ _ h => h) (Or.inl ⟨by rfl, ?_⟩) ?_ ?_
                   rotate_left
                   ·intro w'
                    go_simp
                    with_reducible rfl
                   rotate_left
                   ·simp only [Act.put, sA, sB, sC, i64_w, i32_w]
                    rfl
                   refine pure_ (i := 5) (N := some 78) (v := ?_) (a' := ?_) (ba 21 55) rfl rfl (any_of HT_.out (by kernel_rfl)) (fun _ _ _ h => h) (Or.inl ⟨by rfl, ?_⟩) ?_ ?_
                   rotate_left
                   ·intro w'
                    go_simp
                    with_reducible rfl
                   rotate_left
                   ·simp only [Act.put, sA, sB, sC, i64_w, i32_w]
                    rfl
                   refine pure_ (i := 6) (N := some 79) (v := ?_) (a' := ?_) (ba 21 119) rfl rfl (any_of HT_.out (by kernel_rfl)) (fun _ _ _ h => h) (Or.inl ⟨by rfl, ?_⟩) ?_ ?_
                   rotate_left
                   ·intro w'
                    go_simp
                    with_reducible rfl
                   rotate_left
                   ·simp only [Act.put, sA, sB, sC, i64_w, i32_w]
                    rfl
                   refine take_ (i := 3) (N := some 76) (v := ?_) (a' := ?_) (ba 21 127) rfl rfl (take_ofW HT_.out HW_.out (by kernel_rfl)) (fun _ _ _ h => h) (Or.inl ⟨by rfl, ?_⟩) hHeld ?_ ?_
                   rotate_left
                   ·rintro w' ⟨s0, s1, s2, s3, s4, s5, s6, s7⟩
                    go_simp
                    with_reducible rfl
                   rotate_left
                   ·simp only [Act.put, sA, sB, sC, i64_w, i32_w]
                    rfl
                   refine take_ (i := 7) (N := some 80) (v := ?_) (a' := ?_) (ba 21 255) rfl rfl (take_ofW HT_.out HW_.out (by kernel_rfl)) (fun _ _ _ h => h) (Or.inl ⟨by rfl, ?_⟩) hHeld ?_ ?_
                   rotate_left
                   ·rintro w' ⟨s0, s1, s2, s3, s4, s5, s6, s7⟩
                    go_simp
                    with_reducible rfl
                   rotate_left
                   ·simp only [Act.put, sA, sB, sC, i64_w, i32_w]
                    rfl
                   refine pure_ (i := 8) (N := some 81) (v := ?_) (a' := ?_) (ba 21 511) rfl rfl (any_of HT_.out (by kernel_rfl)) (fun _ _ _ h => h) (Or.inl ⟨by rfl, ?_⟩) ?_ ?_
                   rotate_left
                   ·intro w'
                    go_simp
                    with_reducible rfl
                   rotate_left
                   ·simp only [Act.put, sA, sB, sC, i64_w, i32_w]
                    rfl
                   refine pure_ (i := 9) (N := some 82) (v := ?_) (a' := ?_) (ba 21 1023) rfl rfl (any_of HT_.out (by kernel_rfl)) (fun _ _ _ h => h) (Or.inl ⟨by rfl, ?_⟩) ?_ ?_
                   rotate_left
                   ·intro w'
                    go_simp
                    with_reducible rfl
                   rotate_left
                   ·simp only [Act.put, sA, sB, sC, i64_w, i32_w]
                    rfl
                   refine pure_ (i := 10) (N := some 83) (v := undef) (a' := ?_) (ba 21 2047) rfl rfl (any_of HT_.out (by kernel_rfl)) (fun _ _ _ h => h) (Or.inr ⟨by rfl, rfl⟩) ?_ ?_
                   rotate_left
                   ·simp only [Act.put, sA, sB, sC, i64_w, i32_w]
                    rfl
                   refine pure_ (i := 11) (N := some 84) (v := undef) (a' := ?_) (ba 21 4095) rfl rfl (any_of HT_.out (by kernel_rfl)) (fun _ _ _ h => h) (Or.inr ⟨by rfl, rfl⟩) ?_ ?_
                   rotate_left
                   ·simp only [Act.put, sA, sB, sC, i64_w, i32_w]
                    rfl
                   refine pure_ (i := 12) (N := some 85) (v := undef) (a' := ?_) (ba 21 8191) rfl rfl (any_of HT_.out (by kernel_rfl)) (fun _ _ _ h => h) (Or.inr ⟨by rfl, rfl⟩) ?_ ?_
                   rotate_left
                   ·simp only [Act.put, sA, sB, sC, i64_w, i32_w]
                    rfl
                   refine pure_ (i := 13) (N := some 86) (v := undef) (a' := ?_) (ba 21 16383) rfl rfl (any_of HT_.out (by kernel_rfl)) (fun _ _ _ h => h) (Or.inr ⟨by rfl, rfl⟩) ?_ ?_
                   rotate_left
                   ·simp only [Act.put, sA, sB, sC, i64_w, i32_w]
                    rfl
                   refine pure_ (i := 14) (N := some 87) (v := undef) (a' := ?_) (ba 21 32767) rfl rfl (any_of HT_.out (by kernel_rfl)) (fun _ _ _ h => h) (Or.inr ⟨by rfl, rfl⟩) ?_ ?_
                   rotate_left
                   ·simp only [Act.put, sA, sB, sC, i64_w, i32_w]
                    rfl
                   refine pure_ (i := 15) (N := some 88) (v := undef) (a' := ?_) (ba 21 65535) rfl rfl (any_of HT_.out (by kernel_rfl)) (fun _ _ _ h => h) (Or.inr ⟨by rfl, rfl⟩) ?_ ?_
                   rotate_left
                   ·simp only [Act.put, sA, sB, sC, i64_w, i32_w]
                    rfl
                   refine pure_ (i := 16) (N := some 89) (v := undef) (a' := ?_) (ba 21 131071) rfl rfl (any_of HT_.out (by kernel_rfl)) (fun _ _ _ h => h) (Or.inr ⟨by rfl, rfl⟩) ?_ ?_
                   rotate_left
                   ·simp only [Act.put, sA, sB, sC, i64_w, i32_w]
                    rfl
                   refine pure_ (i := 17) (N := some 90) (v := undef) (a' := ?_) (ba 21 262143) rfl rfl (any_of HT_.out (by kernel_rfl)) (fun _ _ _ h => h) (Or.inr ⟨by rfl, rfl⟩) ?_ ?_
                   rotate_left
                   ·simp only [Act.put, sA, sB, sC, i64_w, i32_w]
                    rfl
                   refine pure_ (i := 18) (N := some 91) (v := undef) (a' := ?_) (ba 21 524287) rfl rfl (any_of HT_.out (by kernel_rfl)) (fun _ _ _ h => h) (Or.inr ⟨by rfl, rfl⟩) ?_ ?_
                   rotate_left
                   ·simp only [Act.put, sA, sB, sC, i64_w, i32_w]
                    rfl
                   refine pure_ (i := 19) (N := some 92) (v := undef) (a' := ?_) (ba 21 1048575) rfl rfl (any_of HT_.out (by kernel_rfl)) (fun _ _ _ h => h) (Or.inr ⟨by rfl, rfl⟩) ?_ ?_
                   rotate_left
                   ·simp only [Act.put, sA, sB, sC, i64_w, i32_w]
                    rfl
                   refine pure_ (i := 20) (N := some 93) (v := ?_) (a' := ?_) (ba 21 2097151) rfl rfl (any_of HT_.out (by kernel_rfl)) (fun _ _ _ h => h) (Or.inl ⟨by rfl, ?_⟩) ?_ ?_
                   rotate_left
                   ·intro w'
                    go_simp
                    with_reducible rfl
                   rotate_left
                   ·simp only [Act.put, sA, sB, sC, i64_w, i32_w]
                    rfl
                   refine done_ (done_of HT_.out (by kernel_rfl)) ?_
                   try go_wp2
                   go_roundg kj34
                   case measure => have := HK1.out; have := HJ14.out; have := HK3.out; have := HJ34.out; omega
                   case rel => exact ⟨(wrap64 (x6_3 + 1)), (by first | rfl | (simp; done) | (simp [*]; done)), H', ⟨by have := HK1.out; have := HJ14.out; have := HK3.out; have := HJ34.out; omega⟩, ⟨by (with_reducible repeat (first | apply rA | apply rN | apply rD)); exact HO_3.out⟩, ⟨by (with_reducible repeat (first | apply rA | apply rN | apply rD)); exact HO_4.out⟩, ⟨bl⟩⟩
                 ·rw [if_neg c41] at H
                  exact absurd H (by simp)
                ·rw [if_neg c40] at H
                 exact absurd H (by simp)
               ·rw [if_neg c39] at H
                exact absurd H (by simp)
              ·rw [if_neg c38] at H
               exact absurd H (by simp)
             ·replace c37 := Bool.eq_false_iff.mpr c37
              subst c37
              have H1 : (mapmakerlaw20_NodingIdempotent.l0 kj34 t259 t262 (wrap64 (x5_1 + 1))) = some r := by rw [if_neg (show ¬ (false = true) by decide)] at H; exact H
              clear H
              have H := H1
              clear H1
              have H' := aM H
              clear H
              go_wp2
              go_roundg kj34
              case measure => have := HK1.out; have := HJ14.out; have := HK3.out; have := HJ34.out; omega
              case rel => exact ⟨(wrap64 (x5_1 + 1)), (by first | rfl | (simp; done) | (simp [*]; done)), H', ⟨by have := HK1.out; have := HJ14.out; have := HK3.out; have := HJ34.out; omega⟩, ⟨by (with_reducible repeat (first | apply rA | apply rN | apply rD)); exact HO_3.out⟩, ⟨by (with_reducible repeat (first | apply rA | apply rN | apply rD)); exact HO_4.out⟩, ⟨bl⟩⟩
     ·rw [if_neg c14] at H
      have c14b0 : decide (x5_1 < (t259.length : Int)) = false := decide_eq_false c14
      clear c14
      replace H := Option.bind_eq_some_iff.mp H
      obtain ⟨t269, A500, H⟩ := H
      try dsimp only at H
      have A50 := aM A500
      clear A500
      obtain rfl := Option.some.inj H
      go_wp2_with (first | ((with_reducible refine gate_callee (f := 9) rfl ?_); refine goesL_ (some 94) rfl rfl Try.func9 (by kernel_rfl) rfl #[] rfl (by (try simp only [List.map_toArray, List.map_cons, List.map_nil]); first | done | rfl | (simp only [List.length_drop, List.length_take]; rfl)) ?_; (with_reducible refine (mapmakerlaw20_lives.calls k1  t269 _ A50.out).mono ?_); rintro e w51 ⟨rfl, hb⟩; refine ⟨_, rfl, ?_⟩; replace HO_3 := aM (rB (rl HO_3) hb); replace HO_4 := aM (rB (rl HO_4) hb); replace HB := aM (bS (bl) hb); (try clear hb); (try clear hb2); (try clear hk); (try clear hi)))
      go_ret
      exact ⟨by first | rfl | (simp [errW_none, errW_some] <;> rfl) | (simp [*, errW_none, errW_some] <;> rfl), bl⟩
  ·replace c8 := Bool.eq_false_iff.mpr c8
   subst c8
   have H1 : (some false) = some r := by rw [if_neg (show ¬ (false = true) by decide)] at H; exact H
   clear H
   have H := H1
   clear H1
   obtain rfl := Option.some.inj H
   go_enter Try.func6, Try.ntmps6
   go_wp2_with (first | ((with_reducible refine gate_callee (f := 8) rfl ?_); refine goesL_ (some 8) rfl rfl Try.func8 (by kernel_rfl) rfl #[.slice A0 l0.length c0] rfl (by (try simp only [List.map_toArray, List.map_cons, List.map_nil]); first | done | rfl | (simp only [List.length_drop, List.length_take]; rfl)) ?_; (with_reducible refine (mapmakerlaw20_few.calls _ _ l0 true _ ?side1 ?side2 A2.out).mono ?_); (case side1 => repeat (first | exact HR0.out | (with_reducible refine cA ?_ _) | (with_reducible refine cN ?_ _) | (with_reducible refine cD ?_))); (case side2 => exact HC0.out); rintro e w' ⟨rfl, ⟨nd, rfl⟩⟩; refine ⟨_, rfl, ?_⟩) | ((with_reducible refine gate_callee (f := 19) rfl ?_); refine goesL_ (some 12) rfl rfl Try.func19 (by kernel_rfl) rfl #[.slice A0 l0.length c0] rfl (by (try simp only [List.map_toArray, List.map_cons, List.map_nil]); first | done | rfl | (simp only [List.length_drop, List.length_take]; rfl)) ?_; (with_reducible refine (noding_Split.calls k _ _ l0 t259 _ ?side1 ?side2 A4.out).mono ?_); (case side1 => repeat (first | exact HR0.out | (with_reducible refine cA ?_ _) | (with_reducible refine cN ?_ _) | (with_reducible refine cD ?_))); (case side2 => exact HC0.out); rintro e w52 ⟨v260, rfl, ho0, hb⟩; refine ⟨_, rfl, ?_⟩; have HO261 := aM (Kd.R_lower ho0 (below_size (bl))); replace HB := aM (bS (bl) hb); (try clear hb); (try clear hb2); (try clear hk); (try clear hi); (try clear ho0)) | ((with_reducible refine gate_callee (f := 13) rfl ?_); refine goesL_ (some 14) rfl rfl Try.func13 (by kernel_rfl) rfl #[.slice A0 l0.length c0] rfl (by (try simp only [List.map_toArray, List.map_cons, List.map_nil]); first | done | rfl | (simp only [List.length_drop, List.length_take]; rfl)) ?_; (with_reducible refine (noding_Sort.calls k _ _ l0 t262 _ ?side1 ?side2 A5.out).mono ?_); (case side1 => repeat (first | exact (Kd.C_below HR0.out HB.out) | (with_reducible refine cA ?_ _) | (with_reducible refine cN ?_ _) | (with_reducible refine cD ?_))); (case side2 => exact HC0.out); rintro e w53 ⟨v263, rfl, ho0, hb⟩; refine ⟨_, rfl, ?_⟩; have HO264 := aM (Kd.R_lower (Kd.R_new' ho0 (Kd.R_lt (rl HO261))) (below_size (bl))); replace HO261 := aM (rE (rl HO261) (Kd.R_base ho0) hb); replace HB := aM (bS (bl) hb); (try clear hb); (try clear hb2); (try clear hk); (try clear hi); (try clear ho0); obtain ⟨Ao54, co54, eo54⟩ := Kd.R_slice HO261.out; subst eo54) | ((with_reducible refine gate_callee (f := 19) rfl ?_); refine goesL_ (some 16) rfl rfl Try.func19 (by kernel_rfl) rfl #[.slice Ao54 t259.length co54] rfl (by (try simp only [List.map_toArray, List.map_cons, List.map_nil]); first | done | rfl | (simp only [List.length_drop, List.length_take]; rfl)) ?_; (with_reducible refine (noding_Split.calls k _ _ t259 t265 _ ?side1 ?side2 A6.out).mono ?_); (case side1 => repeat (first | exact (rR HO261.out).2.2 | (with_reducible refine cA ?_ _) | (with_reducible refine cN ?_ _) | (with_reducible refine cD ?_))); (case side2 => exact (rR HO261.out).2.1); rintro e w55 ⟨v266, rfl, ho0, hb⟩; refine ⟨_, rfl, ?_⟩; have HO267 := aM (Kd.R_lower (Kd.R_new' (Kd.R_new' ho0 (Kd.R_lt (rl HO261))) (Kd.R_lt (rl HO264))) (below_size (bl))); replace HO261 := aM (rE (rl HO261) (Kd.R_base ho0) hb); replace HO264 := aM (rE (rl HO264) (Kd.R_base ho0) hb); replace HB := aM (bS (bl) hb); (try clear hb); (try clear hb2); (try clear hk); (try clear hi); (try clear ho0); obtain ⟨Ao56, co56, eo56⟩ := Kd.R_slice HO267.out; subst eo56) | ((with_reducible refine gate_callee (f := 10) rfl ?_); refine goesL_ (some 18) rfl rfl Try.func10 (by kernel_rfl) rfl #[.slice Ao56 t265.length co56, .slice Ao54 t259.length co54] rfl (by (try simp only [List.map_toArray, List.map_cons, List.map_nil]); first | done | rfl | (simp only [List.length_drop, List.length_take]; rfl)) ?_; (with_reducible refine (mapmakerref20_Same.calls k _ _ t265 _ _ t259 false _ ?side1 ?side2 ?side3 ?side4 A7.out).mono ?_); (case side1 => repeat (first | exact (rR HO267.out).2.2 | (with_reducible refine cA ?_ _) | (with_reducible refine cN ?_ _) | (with_reducible refine cD ?_))); (case side2 => exact (rR HO267.out).2.1); (case side3 => repeat (first | exact (rR HO261.out).2.2 | (with_reducible refine cA ?_ _) | (with_reducible refine cN ?_ _) | (with_reducible refine cD ?_))); (case side4 => exact (rR HO261.out).2.1); rintro e w' ⟨rfl, ⟨nd, rfl⟩⟩; refine ⟨_, rfl, ?_⟩))
   go_ret
   exact ⟨by first | rfl | (simp [errW_none, errW_some] <;> rfl) | (simp [*, errW_none, errW_some] <;> rfl), bl⟩
 ·replace c3 := Bool.eq_false_iff.mpr c3
  subst c3
  have H1 : ((mapmakerlaw20_lives.f k).bind fun t258 => (some t258)) = some r := by rw [if_neg (show ¬ (false = true) by decide)] at H; exact H
  clear H
  have H := H1
  clear H1
  replace H := Option.bind_eq_some_iff.mp H
  obtain ⟨t258, A570, H⟩ := H
  try dsimp only at H
  have A57 := aM A570
  clear A570
  obtain rfl := Option.some.inj H
  go_enter Try.func6, Try.ntmps6
  go_wp2_with (first | ((with_reducible refine gate_callee (f := 8) rfl ?_); refine goesL_ (some 8) rfl rfl Try.func8 (by kernel_rfl) rfl #[.slice A0 l0.length c0] rfl (by (try simp only [List.map_toArray, List.map_cons, List.map_nil]); first | done | rfl | (simp only [List.length_drop, List.length_take]; rfl)) ?_; (with_reducible refine (mapmakerlaw20_few.calls _ _ l0 false _ ?side1 ?side2 A2.out).mono ?_); (case side1 => repeat (first | exact HR0.out | (with_reducible refine cA ?_ _) | (with_reducible refine cN ?_ _) | (with_reducible refine cD ?_))); (case side2 => exact HC0.out); rintro e w' ⟨rfl, ⟨nd, rfl⟩⟩; refine ⟨_, rfl, ?_⟩) | ((with_reducible refine gate_callee (f := 9) rfl ?_); refine goesL_ (some 10) rfl rfl Try.func9 (by kernel_rfl) rfl #[] rfl (by (try simp only [List.map_toArray, List.map_cons, List.map_nil]); first | done | rfl | (simp only [List.length_drop, List.length_take]; rfl)) ?_; (with_reducible refine (mapmakerlaw20_lives.calls k  t258 _ A57.out).mono ?_); rintro e w58 ⟨rfl, hb⟩; refine ⟨_, rfl, ?_⟩; replace HB := aM (bS (bl) hb); (try clear hb); (try clear hb2); (try clear hk); (try clear hi)))
  go_ret
  exact ⟨by first | rfl | (simp [errW_none, errW_some] <;> rfl) | (simp [*, errW_none, errW_some] <;> rfl), bl⟩
def wf33 (x : S33) : Prop := (Lit.int .i64 x.f0).wf = true ∧ (Lit.int .i64 x.f1).wf = true
theorem opens33 : Opens Try.prog 33 k33 wf33 := by
 refine Opens.iso (d := (Kd.pair (Kd.int .i64) (Kd.int .i64))) (W := fun x => (Lit.int .i64 x.1).wf = true ∧ (Lit.int .i64 x.2).wf = true) (f := fun x : S33 => (x.f0, x.f1)) (g := fun x => (⟨x.1, x.2⟩ : S33)) ?_ (fun _ => rfl)
 refine Opens.struct Try.underlying33 (by kernel_rfl) ?_
 exact (OpensF.cons rfl (Opens.int Try.underlying3 (by kernel_rfl)) (OpensF.one rfl (Opens.int Try.underlying3 (by kernel_rfl))))
def wf35 (x : S35) : Prop := wf33 x.f0 ∧ wf33 x.f1
theorem opens35 : Opens Try.prog 35 k35 wf35 := by
 refine Opens.iso (d := (Kd.pair k33 k33)) (W := fun x => wf33 x.1 ∧ wf33 x.2) (f := fun x : S35 => (x.f0, x.f1)) (g := fun x => (⟨x.1, x.2⟩ : S35)) ?_ (fun _ => rfl)
 refine Opens.struct Try.underlying35 (by kernel_rfl) ?_
 exact (OpensF.cons rfl opens33 (OpensF.one rfl opens33))
theorem mapmakerlaw20_NodingIdempotent.opens_0 : Opens Try.prog 23 (Kd.slice 35 k35) (fun x => (x.length ≤ maxLen ∧ ∀ y ∈ x, wf35 y)) := (Opens.slice Try.underlying23 (by kernel_rfl) opens35)
def mapmakerlaw20_NodingIdempotent.Pure : Prop := ∀ (l0 : List (S35)), (l0.length ≤ maxLen ∧ ∀ y ∈ l0, wf35 y) → ∃ k, mapmakerlaw20_NodingIdempotent.f k l0 = some true
theorem mapmakerlaw20_NodingIdempotent.walk (P : mapmakerlaw20_NodingIdempotent.Pure) (w : World) (A0 : Option Addr) (c0 : Nat) (l0 : List (S35)) (hr0 : Kd.C k35 w A0 l0.length l0) (hc0 : l0.length ≤ c0) (w0 : (l0.length ≤ maxLen ∧ ∀ y ∈ l0, wf35 y)) :
  Calls Try.prog 6 #[.slice A0 l0.length c0] w fun e w' => e = .returned (.bool true) ∧ Below w.heap.size w w' := by
 obtain ⟨k, h⟩ := P l0 w0
 refine (mapmakerlaw20_NodingIdempotent.calls k A0 c0 l0 true w hr0 hc0 h).mono ?_
 rintro e w' ⟨rfl, hd⟩
 exact ⟨rfl, hd⟩
end Go.Proofs.Ytmejeiddlhjjmaa.PNodingIdempotent
