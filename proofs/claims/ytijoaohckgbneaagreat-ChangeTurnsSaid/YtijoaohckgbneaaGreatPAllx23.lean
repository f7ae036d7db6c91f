-- out of a driver of this session's prover over the kit's print: Lean checks it
import Derived.Test.YtijoaohckgbneaaGreatPAllx0
import Derived.Test.YtijoaohckgbneaaGreatPAllx2
import Derived.Test.YtijoaohckgbneaaGreatPAllx6
import Derived.Test.YtijoaohckgbneaaGreatPAllx10
import Derived.Test.YtijoaohckgbneaaGreatPAllx22
namespace Go.Proofs.YtijoaohckgbneaaGreat.PAll
open Go.Proofs.YtijoaohckgbneaaGreatG Go.Shelf Go.Lib
open Go.RowKit Go.Proofs.YtijoaohckgbneaaGreatW.PrintWords Go.Proofs.YtijoaohckgbneaaGreatW.PrintLast Go.Proofs.YtijoaohckgbneaaGreatW.PrintMore
attribute [local go_sem] max2_int min2_int max_two min_two max_three min_three max_four min_four   -- for this text's walks alone
set_option linter.unusedVariables false
set_option linter.unusedSimpArgs false
attribute [local go_sem high] eqA48
def mapmakerref14_SameRefs.l0 : Nat → List (S48) → List (S48) → Int → Option (Bool)
 | 0, _, _, _ => none
 | k + 1, x0, x1, x5 => if x5 < (x0.length : Int) then (if 0 ≤ x5 then (if x5 < (x1.length : Int) then (if (!(((rd_T48 x0 x5).f0) == ((rd_T48 x1 x5).f0)) || (!(((rd_T48 x0 x5).f1) == ((rd_T48 x1 x5).f1)))) = true then (some false) else (mapmakerref14_SameRefs.l0 k x0 x1 (wrap64 (x5 + 1)))) else (none)) else (none)) else (some true)
def mapmakerref14_SameRefs.f (k : Nat) (l0 : List (S48)) (l1 : List (S48)) : Option (Bool) := if (l0.length : Int) = (l1.length : Int) then (mapmakerref14_SameRefs.l0 k l0 l1 0) else (some false)
theorem mapmakerref14_SameRefs.mono_l : ∀ k, (∀ y0 y1 y2, LeO (mapmakerref14_SameRefs.l0 k y0 y1 y2) (mapmakerref14_SameRefs.l0 (k + 1) y0 y1 y2))
 | 0 => fun _ _ _ r h => by simp [mapmakerref14_SameRefs.l0] at h
 | k + 1 => by
  have ih0 := mapmakerref14_SameRefs.mono_l k
  ·intro y0 y1 y2
   unfold mapmakerref14_SameRefs.l0
   repeat' first
   | (with_reducible exact ih0 _ _ _)
   | (with_reducible exact LeO.refl _)
   | (with_reducible exact LeO.none _)
   | (with_reducible refine LeO.ite ?_ ?_)
   | (with_reducible refine LeO.bind ?_ (fun _ => ?_))
   | exact ih0 _ _ _
   | exact LeO.none _
   | refine LeO.ite ?_ ?_
   | refine LeO.bind ?_ (fun _ => ?_)
theorem mapmakerref14_SameRefs.mono : ∀ a0 a1 k, LeO (mapmakerref14_SameRefs.f k a0 a1) (mapmakerref14_SameRefs.f (k + 1) a0 a1) := by
 intro a0 a1 k; have ih0 := mapmakerref14_SameRefs.mono_l k; unfold mapmakerref14_SameRefs.f
 repeat' first
   | (with_reducible exact ih0 _ _ _)
   | (with_reducible exact LeO.refl _)
   | (with_reducible exact LeO.none _)
   | (with_reducible refine LeO.ite ?_ ?_)
   | (with_reducible refine LeO.bind ?_ (fun _ => ?_))
   | exact ih0 _ _ _
   | exact LeO.none _
   | refine LeO.ite ?_ ?_
   | refine LeO.bind ?_ (fun _ => ?_)
set_option maxHeartbeats 8000000 in
set_option maxRecDepth 100000 in
theorem mapmakerref14_SameRefs.calls (k : Nat) (A0 : Option Addr) (c0 : Nat) (l0 : List (S48)) (A1 : Option Addr) (c1 : Nat) (l1 : List (S48)) (r : Bool) (w : World) (hr0 : Kd.C k48 w A0 l0.length l0) (hc0 : l0.length ≤ c0) (hr1 : Kd.C k48 w A1 l1.length l1) (hc1 : l1.length ≤ c1) (h : mapmakerref14_SameRefs.f k l0 l1 = some r) :
  Calls Tryz.prog 23 #[.slice A0 l0.length c0, .slice A1 l1.length c1] w fun e w' => e = .returned (.bool r) ∧ Drawn0 w w' := by
 have hu48 := Tryz.underlying48; have HR0 := aM hr0; have HC0 := aM hc0; clear hr0 hc0; have HR1 := aM hr1; have HC1 := aM hc1; clear hr1 hc1; have H : (if (l0.length : Int) = (l1.length : Int) then (mapmakerref14_SameRefs.l0 k l0 l1 0) else (some false)) = some r := h; clear h
 by_cases c3 : (l0.length : Int) = (l1.length : Int)
 ·rw [if_pos c3] at H; have c3b0 : ((l0.length : Int) == (l1.length : Int)) = true := beq_iff_eq.mpr c3; have c3b1 : ((l0.length : Int) != (l1.length : Int)) = false := bne_eq_false_iff_eq.mpr c3; have c3b2 : (l0.length == l1.length) = true := by first | simpa using c3 | (simp at c3 ⊢; omega)
  clear c3; have H' := aM H; clear H; go_enter Tryz.func23, Tryz.ntmps23
  go_wp2
  repeat (go_quiet (fail); try go_wp2)
  go_loopg [5] k (fun kq v5 w' => ∃ (x5_1 : Int), v5 = .int .i64 x5_1 ∧ Aside0 (mapmakerref14_SameRefs.l0 kq l0 l1 x5_1 = some r) ∧ Aside0 (kq ≤ k) ∧ Drawn0 w w')
  case atStart => exact ⟨(0), (by first | rfl | (simp; done) | (simp [*]; done)), H', ⟨Nat.le_refl _⟩, by repeat (first | exact Drawn0.refl _ | apply Drawn0.step)⟩
  case round =>
   clear H'; (try clear c1); (try clear c3); (try clear c3b0); (try clear c3b1); (try clear c3b2); obtain ⟨x5_1, rfl, HA, HK1, ⟨m1, rfl⟩⟩ := hrel
   cases gk with
   | zero => exact absurd HA.out (by simp [mapmakerref14_SameRefs.l0])
   | succ k1 =>
    have H := HA.out; clear HA; simp only [mapmakerref14_SameRefs.l0] at H
    by_cases c4 : x5_1 < (l0.length : Int)
    ·rw [if_pos c4] at H; have c4b0 : decide (x5_1 < (l0.length : Int)) = true := decide_eq_true c4; clear c4
     by_cases c5 : 0 ≤ x5_1
     ·rw [if_pos c5] at H; have c5b0 : decide (0 ≤ x5_1) = true := decide_eq_true c5; clear c5
      by_cases c6 : x5_1 < (l1.length : Int)
      ·rw [if_pos c6] at H; have c6b0 : decide (x5_1 < (l1.length : Int)) = true := decide_eq_true c6; clear c6
       by_cases c7 : (!(((rd_T48 l0 x5_1).f0) == ((rd_T48 l1 x5_1).f0)) || (!(((rd_T48 l0 x5_1).f1) == ((rd_T48 l1 x5_1).f1)))) = true
       ·rw [if_pos c7] at H; have c7b0 : (!(((rd_T48 l0 x5_1).f0) == ((rd_T48 l1 x5_1).f0)) || (!(((rd_T48 l0 x5_1).f1) == ((rd_T48 l1 x5_1).f1)))) = true := c7; clear c7; obtain rfl := Option.some.inj H; have p265 : 0 ≤ (x5_1 : Int) := oT; have q265 : x5_1 < (l0.length : Int) := oT; obtain ⟨ad265, e265, hx265_0, hx265_1⟩ := at_T48 HR0.out x5_1 p265 q265; cases e265
        replace p265 := eq_true p265; replace q265 := eq_true q265; have p266 : 0 ≤ (x5_1 : Int) := oT; have q266 : x5_1 < (l1.length : Int) := oT; obtain ⟨ad266, e266, hx266_0, hx266_1⟩ := at_T48 HR1.out x5_1 p266 q266; cases e266
        replace p266 := eq_true p266; replace q266 := eq_true q266
        go_wp2
        repeat (go_quiet (fail); try go_wp2)
        go_ret; exact ⟨by first | rfl | (simp; done) | (simp [*]; done), by repeat (first | exact Drawn0.refl _ | apply Drawn0.step)⟩
       ·rw [if_neg c7] at H; have c7b0 : (!(((rd_T48 l0 x5_1).f0) == ((rd_T48 l1 x5_1).f0)) || (!(((rd_T48 l0 x5_1).f1) == ((rd_T48 l1 x5_1).f1)))) = false := by simpa using c7
        clear c7; have H' := aM H; clear H; have p265 : 0 ≤ (x5_1 : Int) := oT; have q265 : x5_1 < (l0.length : Int) := oT; obtain ⟨ad265, e265, hx265_0, hx265_1⟩ := at_T48 HR0.out x5_1 p265 q265; cases e265
        replace p265 := eq_true p265; replace q265 := eq_true q265; have p266 : 0 ≤ (x5_1 : Int) := oT; have q266 : x5_1 < (l1.length : Int) := oT; obtain ⟨ad266, e266, hx266_0, hx266_1⟩ := at_T48 HR1.out x5_1 p266 q266; cases e266
        replace p266 := eq_true p266; replace q266 := eq_true q266
        go_wp2
        repeat (go_quiet (fail); try go_wp2)
        go_roundg k1
        case measure => have := HK1.out; omega
        case rel => exact ⟨(wrap64 (x5_1 + 1)), (by first | rfl | (simp; done) | (simp [*]; done)), H', ⟨by have := HK1.out; omega⟩, by repeat (first | exact Drawn0.refl _ | apply Drawn0.step)⟩
      ·rw [if_neg c6] at H; exact absurd H (by simp)
     ·rw [if_neg c5] at H; exact absurd H (by simp)
    ·rw [if_neg c4] at H; have c4b0 : decide (x5_1 < (l0.length : Int)) = false := decide_eq_false c4; clear c4; obtain rfl := Option.some.inj H
     go_wp2
     repeat (go_quiet (fail); try go_wp2)
     go_ret; exact ⟨by first | rfl | (simp; done) | (simp [*]; done), by repeat (first | exact Drawn0.refl _ | apply Drawn0.step)⟩
 ·rw [if_neg c3] at H; have c3b0 : ((l0.length : Int) == (l1.length : Int)) = false := beq_eq_false_iff_ne.mpr c3; have c3b1 : ((l0.length : Int) != (l1.length : Int)) = true := bne_iff_ne.mpr c3; have c3b2 : (l0.length == l1.length) = false := by first | simpa using c3 | (simp at c3 ⊢; omega)
  obtain rfl := Option.some.inj H; go_enter Tryz.func23, Tryz.ntmps23
  go_wp2
  repeat (go_quiet (fail); try go_wp2)
  go_ret; exact ⟨by first | rfl | (simp; done) | (simp [*]; done), by repeat (first | exact Drawn0.refl _ | apply Drawn0.step)⟩
section
open Go.Sort
instance inhS48 : Inhabited S48 := ⟨⟨0, 0⟩⟩
def encR (x : S48) : List Value := [.int .i64 x.f0, .int .i64 x.f1]
def cmpR (x y : S48) : Int := if x.f0 = y.f0 then cmpInt x.f1 y.f1 else cmpInt x.f0 y.f0
def ltR (x y : S48) : Prop := x.f0 < y.f0 ∨ x.f0 = y.f0 ∧ x.f1 < y.f1
theorem ltR_iff (x y : S48) : ltOf cmpR x y = true ↔ ltR x y := by
 unfold ltOf cmpR cmpInt ltR; rw [decide_eq_true_iff]
 (repeat' split) <;> omega
theorem swoR : Go.Sort.SWO (ltOf cmpR) where
 irrefl x := by rw [Bool.eq_false_iff]; intro h; rw [ltR_iff] at h; unfold ltR at h; omega
 trans x y z h1 h2 := by rw [ltR_iff] at *; unfold ltR at *; omega
 ntrans x y z h1 h2 := by
  rw [Bool.eq_false_iff] at *; intro h3; rw [Ne, ltR_iff] at h1 h2; rw [ltR_iff] at h3; unfold ltR at *
  omega
theorem encR_one (x : S48) : ∀ u ∈ encR x, u.oneCell' = true := by
 intro u hu; simp only [encR, List.mem_cons, List.not_mem_nil, or_false] at hu; rcases hu with rfl | rfl <;> rfl
set_option maxHeartbeats 4000000 in
set_option maxRecDepth 100000 in
theorem closureBy66 (x y : S48) (W : World) : Calls Tryz.prog 66 (#[.agg (encR x).toArray, .agg (encR y).toArray] ++ #[]) W fun e w' => e = .returned (.int .i64 (cmpR x y)) ∧ ∃ q os', w' = Go.Sort.grow (W.drewN q) os' := by
 have hu48 := Tryz.underlying48
 show Calls Tryz.prog 66 #[.agg #[.int .i64 x.f0, .int .i64 x.f1], .agg #[.int .i64 y.f0, .int .i64 y.f1]] W _
 by_cases hk : x.f0 = y.f0
 ·have hk2 : (x.f0 != y.f0) = false := bne_eq_false_iff_eq.mpr hk; have hc : cmpR x y = cmpInt x.f1 y.f1 := by unfold cmpR; rw [if_pos hk]
  rw [hc]; clear hc hk; go_enter Tryz.func66, Tryz.ntmps66
  go_wp2_with (first | (go_at_call 57; refine (compare_int_eq x.f1 y.f1 _).mono ?_; rintro e w1 ⟨rfl, rfl⟩) | go_in)
  all_goals
   go_ret; exact ⟨rfl, 0, _, by simp only [Go.Sort.alloc_eq_grow, Go.Sort.grow_grow]; rfl⟩
 ·have hk2 : (x.f0 != y.f0) = true := bne_iff_ne.mpr hk; have hc : cmpR x y = cmpInt x.f0 y.f0 := by unfold cmpR; rw [if_neg hk]
  rw [hc]; clear hc hk; go_enter Tryz.func66, Tryz.ntmps66
  go_wp2_with (first | (go_at_call 57; refine (compare_int_eq x.f0 y.f0 _).mono ?_; rintro e w1 ⟨rfl, rfl⟩) | go_in)
  all_goals
   go_ret; exact ⟨rfl, 0, _, by simp only [Go.Sort.alloc_eq_grow, Go.Sort.grow_grow]; rfl⟩
def sortRefs (l : List S48) : List S48 := (Go.Sort.pdq (ltOf cmpR) l.toArray 0 l.length (Lib.bitLen l.length) true true).toList
theorem sortRefs_spec (l : List S48) : (sortRefs l).Perm l ∧ (sortRefs l).Pairwise (fun x y => ¬ ltR y x) := by
 obtain ⟨⟨hs1, _, hp⟩, ho⟩ := Go.Sort.pdq_sorts (ltOf cmpR) swoR l.toArray 0 l.length (Lib.bitLen l.length) true true (Nat.zero_le _) (by simp) (Or.inl rfl); unfold sortRefs; generalize Go.Sort.pdq (ltOf cmpR) l.toArray 0 l.length (Lib.bitLen l.length) true true = d at hs1 hp ho ⊢; have hsl : d.size = l.length := by simpa using hs1
 refine ⟨?_, ?_⟩
 ·have e1 : d.extract 0 l.length = d := by rw [← hsl]; exact Array.extract_size
  have e2 : l.toArray.extract 0 l.length = l.toArray := by
   have : l.length = l.toArray.size := by simp
   rw [this]; exact Array.extract_size
  rw [e1, e2] at hp; exact hp
 ·rw [List.pairwise_iff_getElem]; intro i j hi hj hij; have hj' : j < d.size := by simpa using hj
  have h1 := ho i j (Nat.zero_le _) hij (by omega); rw [getElem!_pos d j hj', getElem!_pos d i (by omega)] at h1; simp only [Array.getElem_toList]; intro h2; rw [(ltR_iff _ _).2 h2] at h1
  cases h1
set_option maxHeartbeats 4000000 in
set_option maxRecDepth 100000 in
theorem sort_refs (W : World) (base : Nat) (ok : Nat → Prop) (u : Value) (hs : List S48) (hR : Kd.R k48 48 W base ok u hs) (hsz : hs.length < 4611686018427387904) :
  Calls Tryz.prog 65 #[u, .func (.func 66) #[] #[]] W fun e w' => e = .returned (.tuple #[]) ∧ Kd.R k48 48 w' base ok u (sortRefs hs) ∧ W.grownBy w' u.ownBlock := by
 obtain ⟨A, c, rfl⟩ := Kd.R_slice hR; rcases Nat.eq_zero_or_pos hs.length with h0 | h0
 ·obtain rfl : hs = [] := List.eq_nil_of_length_eq_zero h0; refine (AnyF.slices_SortFunc_none { Tryz.laid65 with } A c (.func (.func 66) #[] #[]) W).mono ?_; rintro e w' ⟨rfl, rfl⟩; have he : sortRefs [] = [] := List.Perm.eq_nil (sortRefs_spec []).1; rw [he]; exact ⟨rfl, hR, World.grownBy.refl _ _⟩
 ·obtain ⟨g, rfl⟩ := R_head hR h0; obtain ⟨hH, hblk⟩ := holds_of_R (d := k48) encR (fun _ => rfl) (by decide) (fun h => k48_open h) hR; have eg : ∀ args w, (callFunc 66 args).run Tryz.prog w = .ok (.enter 66 args) w := enters_of Tryz.func66 (by kernel_rfl) rfl; have hcon := AnyQ.slices_SortFunc_eq Tryz.laid65 2 Tryz.isAgg48 Tryz.sizeOf48 encR (fun _ => rfl) encR_one cmpR swoR 66 #[] g 0 c hs.toArray W eg (fun m os dk hs x y => closureBy66 x y _) hH hblk (by simpa using hsz); have e1 : hs.toArray.size = hs.length := by simp
  rw [e1] at hcon; refine hcon.mono ?_; rintro e w' ⟨rfl, n, os, rfl⟩; have hd : (Go.Sort.pdq (ltOf cmpR) hs.toArray 0 hs.length (Lib.bitLen hs.length) true true).size = hs.length := by
   have := (sortRefs_spec hs).1.length_eq; unfold sortRefs at this
   simpa using this
  exact ⟨rfl, R_sortWorldK (d := k48) encR (fun _ => rfl) (by decide) (fun w base ok x => k48_mkM w base ok x) hR n (Go.Sort.pdq (ltOf cmpR) hs.toArray 0 hs.length (Lib.bitLen hs.length) true true) os hd, grown_sortWorldK encR 2 W g n (Go.Sort.pdq (ltOf cmpR) hs.toArray 0 hs.length (Lib.bitLen hs.length) true true) os⟩
end
set_option maxHeartbeats 4000000 in
set_option maxRecDepth 100000 in
theorem change_sorted.callsM (W : World) (base : Nat) (ok : Nat → Prop) (u : Value) (hs : List S48) (hR : Kd.R k48 48 W base ok u hs) (hsz : hs.length < 4611686018427387904) :
  Calls Tryz.prog 48 #[u] W fun e w' => e = .returned u ∧ Kd.R k48 48 w' base ok u (sortRefs hs) ∧ W.grownBy w' u.ownBlock := by
 have HS := aM (sort_refs W base ok u hs hR hsz); obtain ⟨A, c, rfl⟩ := Kd.R_slice hR; clear hR; go_enter Tryz.func48, Tryz.ntmps48
 go_wp2_with (first | (go_at_call 65; refine HS.out.mono ?_; rintro e w1 ⟨rfl, hr, hg⟩; have HRG := aM (And.intro hr hg); clear hr hg) | go_in)
 all_goals
  go_ret; exact ⟨rfl, HRG.out.1, HRG.out.2⟩
theorem infoRef : (Tryz.prog.info? 48).map (fun i => (i.zero, i.size, i.bytes)) = some (some (.agg #[(.int .i64 0), (.int .i64 0)]), 2, 16) := by kernel_rfl
def refOf (x : S45) : S48 := ⟨x.f1, chID x⟩
def change_Touched.f (k : Nat) (a0 : List S37) (a1 : List S40) (a2 : List S43) (b0 : List S37) (b1 : List S40) (b2 : List S43) : Option (List S48) :=
 (change_Diff.f k a0 a1 a2 b0 b1 b2).bind fun l => if (l.all okC && decide (l.length ≤ 1000000)) = true then some (sortRefs (l.map refOf)) else none
theorem change_Touched.mono : ∀ a0 a1 a2 b0 b1 b2 k, LeO (change_Touched.f k a0 a1 a2 b0 b1 b2) (change_Touched.f (k + 1) a0 a1 a2 b0 b1 b2) := fun a0 a1 a2 b0 b1 b2 k =>
 LeO.bind (change_Diff.mono _ _ _ _ _ _ k) (fun _ => LeO.refl _)
theorem ref_calls {x : S45} {cs : List Value} {W : World} {ok : Nat → Prop} (hf : Kd.FK k45 W ok x cs) (hok : okC x = true) : Calls Tryz.prog 12 #[.agg cs.toArray] W fun e w' => e = .returned (.agg #[.int .i64 x.f1, .int .i64 (chID x)]) ∧ Below W.heap.size W w' := by
 obtain ⟨A5, c5, A7, c7, A8, c8, A10, c10, A11, c11, rfl, m5, q5, m7, q7, m8, q8, m10, q10, m11, q11⟩ := k45_open (Kd.FK_now hf); exact change_Ref.calls _ _ _ _ _ _ _ _ _ _ _ _ _ _ _ _ _ _ _ _ _ _ _ _ W q5 m5 q7 m7 q8 m8 q10 m10 q11 m11 (okC_ref hok)
set_option maxHeartbeats 8000000 in
set_option maxRecDepth 100000 in
theorem change_Touched.calls (k : Nat) (A0_0 : Option Addr) (c0_0 : Nat) (l0_0 : List S37) (A0_1 : Option Addr) (c0_1 : Nat) (l0_1 : List S40) (A0_2 : Option Addr) (c0_2 : Nat) (l0_2 : List S43) (A1_0 : Option Addr) (c1_0 : Nat) (l1_0 : List S37) (A1_1 : Option Addr) (c1_1 : Nat) (l1_1 : List S40) (A1_2 : Option Addr) (c1_2 : Nat) (l1_2 : List S43) (r : List S48) (w : World) (hr0_0 : Kd.C k37 w A0_0 l0_0.length l0_0) (hc0_0 : l0_0.length ≤ c0_0) (hr0_1 : Kd.C k40 w A0_1 l0_1.length l0_1) (hc0_1 : l0_1.length ≤ c0_1) (hr0_2 : Kd.C k43 w A0_2 l0_2.length l0_2) (hc0_2 : l0_2.length ≤ c0_2) (hr1_0 : Kd.C k37 w A1_0 l1_0.length l1_0) (hc1_0 : l1_0.length ≤ c1_0) (hr1_1 : Kd.C k40 w A1_1 l1_1.length l1_1) (hc1_1 : l1_1.length ≤ c1_1) (hr1_2 : Kd.C k43 w A1_2 l1_2.length l1_2) (hc1_2 : l1_2.length ≤ c1_2) (h : change_Touched.f k l0_0 l0_1 l0_2 l1_0 l1_1 l1_2 = some r) :
  Calls Tryz.prog 24 #[.agg #[.slice A0_0 l0_0.length c0_0, .slice A0_1 l0_1.length c0_1, .slice A0_2 l0_2.length c0_2], .agg #[.slice A1_0 l1_0.length c1_0, .slice A1_1 l1_1.length c1_1, .slice A1_2 l1_2.length c1_2]] w fun e w' => ∃ v0_ : Value, e = .returned v0_ ∧ Kd.R k48 48 w' w.heap.size (fun _ => True) v0_ r ∧ Below w.heap.size w w' := by
 have hu26 := Tryz.underlying26; have hu45 := Tryz.underlying45; have hu48 := Tryz.underlying48; have hu64 := Tryz.underlying64; unfold change_Touched.f at h; obtain ⟨l, hl, h⟩ := Option.bind_eq_some_iff.mp h
 split at h
 case isFalse => cases h
 rename_i hokl
 have HRS := aM (Option.some.inj h); have HOK : Aside0 ((∀ x ∈ l, okC x = true) ∧ l.length ≤ 1000000) := ⟨by simp only [Bool.and_eq_true, decide_eq_true_eq, List.all_eq_true] at hokl; exact hokl⟩; clear h hokl; have S2 := aM (DfInv.start w #[.slice A0_0 l0_0.length c0_0, .slice A0_1 l0_1.length c0_1, .slice A0_2 l0_2.length c0_2] #[.slice A1_0 l1_0.length c1_0, .slice A1_1 l1_1.length c1_1, .slice A1_2 l1_2.length c1_2]); have HDF := aM (change_Diff.calls k (fun _ => True) A0_0 c0_0 l0_0 (fun _ => True) A0_1 c0_1 l0_1 (fun _ => True) A0_2 c0_2 l0_2 (fun _ => True) A1_0 c1_0 l1_0 (fun _ => True) A1_1 c1_1 l1_1 (fun _ => True) A1_2 c1_2 l1_2 l ((w.alloc (.cells #[.slice A0_0 l0_0.length c0_0, .slice A0_1 l0_1.length c0_1, .slice A0_2 l0_2.length c0_2] 26)).alloc (.cells #[.slice A1_0 l1_0.length c1_0, .slice A1_1 l1_1.length c1_1, .slice A1_2 l1_2.length c1_2] 26)) (Kd.V_mk hc0_0 (Kd.F_mono (Kd.C_F k37_heap (Kd.C_below hr0_0 S2.out.hb)) (fun _ _ => trivial))) (Kd.V_mk hc0_1 (Kd.F_mono (Kd.C_F k40_heap (Kd.C_below hr0_1 S2.out.hb)) (fun _ _ => trivial))) (Kd.V_mk hc0_2 (Kd.F_mono (Kd.C_F k43_heap (Kd.C_below hr0_2 S2.out.hb)) (fun _ _ => trivial))) (Kd.V_mk hc1_0 (Kd.F_mono (Kd.C_F k37_heap (Kd.C_below hr1_0 S2.out.hb)) (fun _ _ => trivial))) (Kd.V_mk hc1_1 (Kd.F_mono (Kd.C_F k40_heap (Kd.C_below hr1_1 S2.out.hb)) (fun _ _ => trivial))) (Kd.V_mk hc1_2 (Kd.F_mono (Kd.C_F k43_heap (Kd.C_below hr1_2 S2.out.hb)) (fun _ _ => trivial))) hl); clear hl hr0_0 hc0_0 hr0_1 hc0_1 hr0_2 hc0_2 hr1_0 hc1_0 hr1_1 hc1_1 hr1_2 hc1_2; go_enter Tryz.func24, Tryz.ntmps24
 go_wp2_with (first | (go_at_call 21; refine HDF.out.mono ?_; rintro e w2 ⟨u, rfl, hn, hb2⟩; have D2 := aM (S2.out.below hb2); obtain ⟨Al, cl, rfl⟩ := Kd.N_slice hn; have VL := aM (Kd.V_bound (Kd.N_V (base' := w.heap.size) hn)); clear hn hb2) | go_in)
 all_goals
  obtain ⟨okl, VL, hlo⟩ : ∃ okl : Nat → Prop, Aside0 (Kd.V k45 45 w2 w.heap.size okl (.slice Al l.length cl) l) ∧ ∀ k_, okl k_ → k_ < w2.heap.size := ⟨_, VL, fun k_ hk => hk.2⟩; obtain ⟨b2, hb2⟩ : ∃ b, b = w2.heap.size := ⟨_, rfl⟩; have HLO := aM (show ∀ k_, okl k_ → k_ < b2 from fun k_ hk => by rw [hb2]; exact hlo k_ hk); have HB2 := aM (show w.heap.size + 1 < b2 ∧ b2 ≤ w2.heap.size from ⟨by rw [hb2]; exact blk_lt D2.out.pb, by omega⟩); clear hlo hb2 HDF S2; have IV0 := aM (show Below w.heap.size w w2 ∧ Kd.V k45 45 w2 w.heap.size okl (.slice Al l.length cl) l ∧ b2 ≤ w2.heap.size from ⟨D2.out.hb, VL.out, HB2.out.2⟩); clear VL D2
  go_loopg [5, 12] l.length (fun gg v5 v wr => ∃ (i : Nat) (vv : Value), i ≤ l.length ∧ l.length - i ≤ gg ∧ v = .int .i64 i ∧ v5 = vv ∧ Aside0 (Below w.heap.size w wr ∧ Kd.V k45 45 wr w.heap.size okl (.slice Al l.length cl) l ∧ b2 ≤ wr.heap.size) ∧ Aside0 (Kd.R k48 48 wr b2 (fun _ => True) vv ((l.take i).map refOf)))
  case atStart => exact ⟨0, _, by omega, by omega, rfl, rfl, IV0, ⟨Kd.R_nil _ _ _ _ _⟩⟩
  case round =>
   clear IV0; obtain ⟨i, vv, hi, hg, rfl, rfl, IV, RR⟩ := hrel
   by_cases hlt : i < l.length
   ·have hltI : (i : Int) < (l.length : Int) := by omega
    obtain ⟨ad, A5, c5, A7, c7, A8, c8, A10, c10, A11, c11, e0, hx0, hx1, hx2, hx3, hx4, hx5, hx6, hx7, hx8, hx9, hx10, hx11, hf⟩ := atV45 IV.out.2.1 i hlt; cases e0
    have HO := aM (HOK.out.1 _ (List.getElem_mem hlt)); have HF := aM hf; have TK := aM (show (l.take (i + 1)).map refOf = (l.take i).map refOf ++ [refOf l[i]] by rw [List.take_succ_eq_append_getElem hlt, List.map_append]; rfl); clear hf; generalize l[i] = x at hx0 hx1 hx2 hx3 hx4 hx5 hx6 hx7 hx8 hx9 hx10 hx11 HF HO TK; have HLEN := aM (show ((l.take i).map refOf).length ≤ 1000000 by rw [List.length_map, List.length_take]; have := HOK.out.2; omega); generalize (l.take i).map refOf = out at RR TK HLEN; have HCR := aM (ref_calls (Kd.FK_below HF.out (bA (Below.refl _ _) (.cells #[.int .i64 x.f0, .int .i64 x.f1, .int .i64 x.f2.f0, .int .i64 x.f2.f1.f0, .int .i64 x.f2.f1.f1, .slice A5 x.f2.f2.length c5, .int .i64 x.f3.f0, .slice A7 x.f3.f1.length c7, .slice A8 x.f3.f2.length c8, .int .i64 x.f4.f0, .slice A10 x.f4.f1.length c10, .slice A11 x.f4.f2.length c11] 45))) HO.out); have hww : ∃ A c, u5 = .slice A out.length c := Kd.R_slice RR.out; obtain ⟨Ao, co, rfl⟩ := hww
    go_wp2_with (first | (go_at_call 12; refine HCR.out.mono ?_; rintro e w4 ⟨rfl, hb4⟩; have B4 := aM (bS (Below.refl wr.heap.size wr) (show Below wr.heap.size wr w4 from (bA (Below.refl _ _) _).trans (hb4.mono (bA (Below.refl _ _) _).size))); clear hb4 HCR) | ((with_reducible refine gate_builtin (b := .append) (xs := #[.tmp 16, .tmp 19]) rfl ?_); at_builtin; refine Kd.R_append k48 (w0 := w4) (W := w4) b2 rfl (.tmp 16) (.tmp 19) 64 48 _ _ rfl Tryz.underlying64 infoRef rfl (by decide) (by decide) (.slice Ao out.length co) out (refOf x) [.int .i64 x.f1, .int .i64 (chID x)] (fun _ => True) (fun _ => False) rfl rfl (k48_mkM _ _ _ (refOf x)) (fun _ hk => hk.elim) (fun _ _ => trivial) (rB RR.out B4.out) ?hB ?hbs ?hln ?_; (case hB => exact Below.refl _ _); (case hbs => have := B4.out.size; have := IV.out.2.2; omega); (case hln => have := HLEN.out; omega); intro vn w5 hr hb hg5 _; have IV5 := aM (show Below w.heap.size w w5 ∧ Kd.V k45 45 w5 w.heap.size okl (.slice (some ad) l.length cl) l ∧ b2 ≤ w5.heap.size from ⟨(IV.out.1.trans (B4.out.mono IV.out.1.size)).grown hg5 (IV.out.1.trans (B4.out.mono IV.out.1.size)).size (fun k_ e => by have := Kd.R_base RR.out k_ e; have := HB2.out; omega), Kd.V_grown (Kd.V_below IV.out.2.1 B4.out) hg5 (fun k_ hk e => by have := Kd.R_base RR.out k_ e.symm; have := HLO.out k_ hk; omega), by have := B4.out.size; have := IV.out.2.2; have := hg5.size; omega⟩); have R5 := aM hr; clear hr hb hg5) | go_in)
    go_roundg (l.length - (i + 1))
    case measure => omega
    case rel => exact ⟨i + 1, _, by omega, by omega, by have := HOK.out.2; have hw_ := IntWalk.wrap64_in ((i : Int) + 1) (by omega); rw [hw_]; go_num, rfl, IV5, ⟨by rw [TK.out]; exact R5.out⟩⟩
   ·have : i = l.length := by omega
    subst this; have RL := aM (show Kd.R k48 48 wr b2 (fun _ => True) u5 (l.map refOf) by have h := RR.out; rwa [List.take_length] at h); have hww : ∃ A c, u5 = .slice A l.length c := by obtain ⟨A, c, e⟩ := Kd.R_slice RL.out; exact ⟨A, c, by rw [e, List.length_map]⟩
    obtain ⟨Ao, co, rfl⟩ := hww; clear RR
    go_wp2_with (first | (go_at_call 48; refine (change_sorted.callsM _ b2 _ _ _ RL.out (by rw [List.length_map]; have := HOK.out.2; omega)).mono ?_; rintro e w6 ⟨rfl, hr6, hg6⟩; have E6 := aM (And.intro hr6 hg6); clear hr6 hg6) | go_in)
    go_ret; exact ⟨_, rfl, HRS.out ▸ Kd.R_lower E6.out.1 (by have := HB2.out; omega), IV.out.1.grown E6.out.2 IV.out.1.size (fun k_ e => by have := Kd.R_base RL.out k_ e; have := HB2.out; omega)⟩
def mapmakerref14_Less.f (a0_0 : Int) (a0_1 : Int) (a1_0 : Int) (a1_1 : Int) : Option (Bool) := if a0_0 < a1_0 then (some true) else (if a0_0 = a1_0 then (some (decide (a0_1 < a1_1))) else (some false))
set_option maxHeartbeats 8000000 in
set_option maxRecDepth 100000 in
theorem mapmakerref14_Less.calls (a0_0 : Int) (a0_1 : Int) (a1_0 : Int) (a1_1 : Int) (r : Bool) (w : World) (h : mapmakerref14_Less.f a0_0 a0_1 a1_0 a1_1 = some r) :
  Calls Tryz.prog 27 #[.agg #[.int .i64 a0_0, .int .i64 a0_1], .agg #[.int .i64 a1_0, .int .i64 a1_1]] w fun e w' => e = .returned (.bool r) ∧ Below w.heap.size w w' := by
 have hu48 := Tryz.underlying48; have HB := aM (Below.refl w.heap.size w); have H : (if a0_0 < a1_0 then (some true) else (if a0_0 = a1_0 then (some (decide (a0_1 < a1_1))) else (some false))) = some r := h; clear h
 by_cases c3 : a0_0 < a1_0
 ·rw [if_pos c3] at H; have c3b0 : decide (a0_0 < a1_0) = true := decide_eq_true c3; clear c3; obtain rfl := Option.some.inj H; go_enter Tryz.func27, Tryz.ntmps27
  go_wp2_with (first | ((with_reducible refine gate_dst (N := 2) rfl ?_); refine bx (N := 2) (cs := #[.int .i64 a0_0, .int .i64 a0_1]) (t := 48) ?_; intro gb267 hg w4 hbox hb; have BK267 := aM (hbox); have GE267 := aM (gw (w := w) hg); replace HB := aM (bS (bl) hb); clear hb hbox hg) | ((with_reducible refine gate_dst (N := 3) rfl ?_); refine bx (N := 3) (cs := #[.int .i64 a1_0, .int .i64 a1_1]) (t := 48) ?_; intro gb268 hg w5 hbox hb; have BK268 := aM (hbox); have GE268 := aM (gw (w := w) hg); obtain ⟨NB267_268, NB268_267⟩ := n2 BK267 hg; replace BK267 := aM (kB (kl BK267) hb); replace HB := aM (bS (bl) hb); clear hb hbox hg; have hn6 := nn NB267_268; have hz7 := bc2 BK267; have hz8 := bc2 BK268))
  go_ret; exact ⟨by first | rfl | (simp [errW_none, errW_some] <;> rfl) | (simp [*, errW_none, errW_some] <;> rfl), bl⟩
 ·rw [if_neg c3] at H; have c3b0 : decide (a0_0 < a1_0) = false := decide_eq_false c3; clear c3
  by_cases c9 : a0_0 = a1_0
  ·rw [if_pos c9] at H; have c9b0 : (a0_0 == a1_0) = true := beq_iff_eq.mpr c9; have c9b1 : (a0_0 != a1_0) = false := bne_eq_false_iff_eq.mpr c9; clear c9; obtain rfl := Option.some.inj H; go_enter Tryz.func27, Tryz.ntmps27
   go_wp2_with (first | ((with_reducible refine gate_dst (N := 2) rfl ?_); refine bx (N := 2) (cs := #[.int .i64 a0_0, .int .i64 a0_1]) (t := 48) ?_; intro gb267 hg w10 hbox hb; have BK267 := aM (hbox); have GE267 := aM (gw (w := w) hg); replace HB := aM (bS (bl) hb); clear hb hbox hg) | ((with_reducible refine gate_dst (N := 3) rfl ?_); refine bx (N := 3) (cs := #[.int .i64 a1_0, .int .i64 a1_1]) (t := 48) ?_; intro gb268 hg w11 hbox hb; have BK268 := aM (hbox); have GE268 := aM (gw (w := w) hg); obtain ⟨NB267_268, NB268_267⟩ := n2 BK267 hg; replace BK267 := aM (kB (kl BK267) hb); replace HB := aM (bS (bl) hb); clear hb hbox hg; have hn12 := nn NB267_268; have hz13 := bc2 BK267; have hz14 := bc2 BK268))
   go_ret; exact ⟨by first | rfl | (simp [errW_none, errW_some] <;> rfl) | (simp [*, errW_none, errW_some] <;> rfl), bl⟩
  ·rw [if_neg c9] at H; have c9b0 : (a0_0 == a1_0) = false := beq_eq_false_iff_ne.mpr c9; have c9b1 : (a0_0 != a1_0) = true := bne_iff_ne.mpr c9; obtain rfl := Option.some.inj H; go_enter Tryz.func27, Tryz.ntmps27
   go_wp2_with (first | ((with_reducible refine gate_dst (N := 2) rfl ?_); refine bx (N := 2) (cs := #[.int .i64 a0_0, .int .i64 a0_1]) (t := 48) ?_; intro gb267 hg w15 hbox hb; have BK267 := aM (hbox); have GE267 := aM (gw (w := w) hg); replace HB := aM (bS (bl) hb); clear hb hbox hg) | ((with_reducible refine gate_dst (N := 3) rfl ?_); refine bx (N := 3) (cs := #[.int .i64 a1_0, .int .i64 a1_1]) (t := 48) ?_; intro gb268 hg w16 hbox hb; have BK268 := aM (hbox); have GE268 := aM (gw (w := w) hg); obtain ⟨NB267_268, NB268_267⟩ := n2 BK267 hg; replace BK267 := aM (kB (kl BK267) hb); replace HB := aM (bS (bl) hb); clear hb hbox hg; have hn17 := nn NB267_268; have hz18 := bc2 BK267; have hz19 := bc2 BK268))
   go_ret; exact ⟨by first | rfl | (simp [errW_none, errW_some] <;> rfl) | (simp [*, errW_none, errW_some] <;> rfl), bl⟩
end Go.Proofs.YtijoaohckgbneaaGreat.PAll
