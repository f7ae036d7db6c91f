import Derived.Test.YtmejeiddlhjjmaaPNodingSplitsx0
import Derived.Test.YtmejeiddlhjjmaaPNodingSplitsx1
import Derived.Test.YtmejeiddlhjjmaaPNodingSplitsx5
import Derived.Test.YtmejeiddlhjjmaaPNodingSplitsx6
import Derived.Test.YtmejeiddlhjjmaaPNodingSplitsx11
import Derived.Test.YtmejeiddlhjjmaaPNodingSplitsx12
import Derived.Test.YtmejeiddlhjjmaaPNodingSplitsx13
namespace Go.Proofs.Ytmejeiddlhjjmaa.PNodingSplits
open Go.Proofs.YtmejeiddlhjjmaaG Go.Shelf Go.Lib
open Go.RowKit Go.Proofs.YtmejeiddlhjjmaaW.PrintWords Go.Proofs.YtmejeiddlhjjmaaW.PrintLast Go.Proofs.YtmejeiddlhjjmaaW.PrintMore
attribute [local go_sem] max2_int min2_int max_two min_two max_three min_three max_four min_four
set_option linter.unusedVariables false
set_option linter.unusedSimpArgs false
attribute [local go_sem high] eqA33
def less8 (q p : S33) : Bool := if q.f0 < p.f0 then true else if q.f0 = p.f0 then decide (q.f1 < p.f1) else false
theorem less8_some (q p : S33) : mapmakerref08_Less.f q.f0 q.f1 p.f0 p.f1 = some (less8 q p) := by
 unfold mapmakerref08_Less.f less8
 (repeat' split) <;> rfl
def mapmakerref20_cuts.put (p : S33) : Bool → List S33 → List S33
 | b, [] => if b = true then [] else [p]
 | b, q :: r => (if b = true then [] else if less8 q p = true then [] else [p]) ++ ((if eqs33 q p = true then [] else [q]) ++ mapmakerref20_cuts.put p (b || !less8 q p) r)
def mapmakerref20_cuts.go (s : S35) : List S33 → List S33 → Option (List S33)
 | [], out => some out
 | p :: ps, out => (mapmakerref09_Within.f p.f0 p.f1 s.f0.f0 s.f0.f1 s.f1.f0 s.f1.f1).bind fun b => if b = true then (if out.length < 100000000 then mapmakerref20_cuts.go s ps (mapmakerref20_cuts.put p false out) else none) else mapmakerref20_cuts.go s ps out
def mapmakerref20_cuts.f (l0 : List (S35)) (a1_0 : Int) (a1_1 : Int) (a1_2 : Int) (a1_3 : Int) : Option (List (S33)) := if l0.length < 100000000 then mapmakerref20_cuts.go ⟨⟨a1_0, a1_1⟩, ⟨a1_2, a1_3⟩⟩ (noding_Split.ends l0) [] else none
theorem noding_Split.ends_at : ∀ (l : List S35) (a : Nat) (h : a < l.length), (noding_Split.ends l).drop (2 * a) = l[a].f0 :: l[a].f1 :: (noding_Split.ends l).drop (2 * a + 1 + 1)
 | s :: l, 0, _ => rfl
 | s :: l, a + 1, h => by
  have := noding_Split.ends_at l a (by simpa using h)
  rw [show noding_Split.ends (s :: l) = s.f0 :: s.f1 :: noding_Split.ends l from rfl, show 2 * (a + 1) = 2 * a + 1 + 1 by omega]
  simpa using this
set_option maxHeartbeats 16000000 in
set_option maxRecDepth 100000 in
theorem mapmakerref20_cuts.calls (A0 : Option Addr) (c0 : Nat) (l0 : List (S35)) (a1_0 : Int) (a1_1 : Int) (a1_2 : Int) (a1_3 : Int) (r : List (S33)) (w : World) (hr0 : Kd.C k35 w A0 l0.length l0) (hc0 : l0.length ≤ c0) (h : mapmakerref20_cuts.f l0 a1_0 a1_1 a1_2 a1_3 = some r) :
  Calls Try.prog 44 #[.slice A0 l0.length c0, .agg #[.int .i64 a1_0, .int .i64 a1_1, .int .i64 a1_2, .int .i64 a1_3]] w fun e w' => ∃ v0_ : Value, e = .returned (v0_) ∧ Kd.R k33 33 w' w.heap.size (fun _ => True) v0_ r ∧ Below w.heap.size w w' := by
 have mixed : Try.prog.follows Departure.mixedOrders = true := by kernel_rfl
 unfold mapmakerref20_cuts.f at h
 split at h
 case isFalse => cases h
 rename_i hll
 have HG0 := aM h
 clear h
 obtain ⟨wb, hwb⟩ : ∃ wb, wb = (w.alloc (.cells #[.int .i64 a1_0, .int .i64 a1_1, .int .i64 a1_2, .int .i64 a1_3] 35)) := ⟨_, rfl⟩
 have hb0 : Below w.heap.size w wb := by rw [hwb]; exact (Below.refl _ w).alloc (Nat.le_refl _) _
 have HR := aM (Kd.C_below hr0 hb0)
 have hsb : w.heap.size < wb.heap.size := by rw [hwb]; simp
 have hg : ∀ W, Below wb.heap.size wb W → W.cell? ⟨w.heap.size, 0, none⟩ = some (.int .i64 a1_0) ∧ W.cell? ⟨w.heap.size, 1, none⟩ = some (.int .i64 a1_1) ∧ W.cell? ⟨w.heap.size, 2, none⟩ = some (.int .i64 a1_2) ∧ W.cell? ⟨w.heap.size, 3, none⟩ = some (.int .i64 a1_3) := fun W hb => ⟨(hb.cell (p := ⟨w.heap.size, 0, none⟩) hsb).trans (by rw [hwb]; simp), (hb.cell (p := ⟨w.heap.size, 1, none⟩) hsb).trans (by rw [hwb]; simp), (hb.cell (p := ⟨w.heap.size, 2, none⟩) hsb).trans (by rw [hwb]; simp), (hb.cell (p := ⟨w.heap.size, 3, none⟩) hsb).trans (by rw [hwb]; simp)⟩
 have HS := aM hg
 have HB0 := aM hb0
 clear hg hr0 hb0
 go_enter Try.func44, Try.ntmps44
 go_wp2
 rw [← hwb]
 have HSB := aM hsb
 clear hwb hsb
 go_loopg [6, 5] (2 * l0.length) (fun gg v6 v5 wr => ∃ (i : Nat) (out : List S33), i ≤ 2 * l0.length ∧ 2 * l0.length - i ≤ gg ∧ v6 = .int .i64 i ∧ Aside0 (mapmakerref20_cuts.go (⟨⟨a1_0, a1_1⟩, ⟨a1_2, a1_3⟩⟩ : S35) ((noding_Split.ends l0).drop i) out = some r) ∧ Aside0 (Kd.R k33 33 wr wb.heap.size (fun _ => True) v5 out) ∧ Aside0 (Below wb.heap.size wb wr))
 case atStart => exact ⟨0, [], by omega, by omega, rfl, HG0, ⟨Kd.R_nil _ _ _ _ _⟩, ⟨Below.refl _ _⟩⟩
 case round =>
  clear HG0
  obtain ⟨i, out, hi, hgg, rfl, HA, HO, HB⟩ := hrel
  by_cases hlt : i < 2 * l0.length
  ·have hltI : (i : Int) < 2 * (l0.length : Int) := by omega
   have hpar : ∃ (p : S33) (a : Nat), a < l0.length ∧ ((i = 2 * a ∧ p = (rd_T35 l0 (a : Int)).f0) ∨ (i = 2 * a + 1 ∧ p = (rd_T35 l0 (a : Int)).f1)) ∧ (noding_Split.ends l0).drop i = p :: (noding_Split.ends l0).drop (i + 1) := by
    have hx : ∀ a (h : a < l0.length), rd_T35 l0 (a : Int) = l0[a] := fun a h => by unfold rd_T35; rw [Int.toNat_natCast, List.getD_eq_getElem?_getD, List.getElem?_eq_getElem h]; rfl
    rcases Nat.mod_two_eq_zero_or_one i with hm | hm
    ·have ha : i / 2 < l0.length := by omega
     have hd := noding_Split.ends_at l0 (i / 2) ha
     refine ⟨l0[i / 2].f0, i / 2, ha, Or.inl ⟨by omega, by rw [hx _ ha]⟩, ?_⟩
     rw [show 2 * (i / 2) = i by omega] at hd
     have := congrArg (List.drop 1) hd
     rw [List.drop_drop] at this
     rw [hd, show i + 1 = i + 1 from rfl, this]; rfl
    ·have ha : i / 2 < l0.length := by omega
     have hd := noding_Split.ends_at l0 (i / 2) ha
     refine ⟨l0[i / 2].f1, i / 2, ha, Or.inr ⟨by omega, by rw [hx _ ha]⟩, ?_⟩
     have := congrArg (List.drop 1) hd
     rw [List.drop_drop, show 2 * (i / 2) + 1 = i by omega] at this
     rw [this, show i + 1 = i + 1 from rfl]; rfl
   obtain ⟨p, a, ha, hpa, hd⟩ := hpar
   have haI : (a : Int) < (l0.length : Int) := by omega
   have H := HA.out
   rw [hd] at H
   clear HA hd
   obtain ⟨b, hb, H⟩ := Option.bind_eq_some_iff.mp (show (mapmakerref09_Within.f p.f0 p.f1 a1_0 a1_1 a1_2 a1_3).bind _ = some r from H)
   have HW := aM hb
   clear hb
   obtain ⟨A5, c5, e5⟩ := Kd.R_slice HO.out
   subst e5
   have HR5 := aM (rR HO.out).2.2
   obtain ⟨ad, e0, hx0, hx1, hx2, hx3⟩ := at_T35 (Kd.C_below HR.out HB.out) (a : Int) (by omega) (by omega)
   cases e0
   rw [Int.toNat_natCast] at hx0 hx1 hx2 hx3
   obtain ⟨s0, s1, s2, s3⟩ := HS.out wr HB.out
   have hsw : w.heap.size < wr.heap.size := by have := HSB.out; have := HB.out.size; omega
   have hl : ∀ (v : Value) (j : Nat), wr.cell? ⟨w.heap.size, j, none⟩ = some v → (wr.alloc (.cells #[.int .i64 p.f0, .int .i64 p.f1] 33)).cell? ⟨w.heap.size, j, none⟩ = some v := fun v j h => Go.Lib.cell?_alloc_some _ h
   have hne : w.heap.size ≠ wr.heap.size := by omega
   have t0 := hl _ _ s0
   have t1 := hl _ _ s1
   have t2 := hl _ _ s2
   have t3 := hl _ _ s3
   clear hl
   have hqb : ∀ (W : World), Below (wr.alloc (.cells #[.int .i64 p.f0, .int .i64 p.f1] 33)).heap.size (wr.alloc (.cells #[.int .i64 p.f0, .int .i64 p.f1] 33)) W → W.cell? ⟨wr.heap.size, 0, none⟩ = some (.int .i64 p.f0) ∧ W.cell? ⟨wr.heap.size, 1, none⟩ = some (.int .i64 p.f1) ∧ Kd.R k33 33 W wb.heap.size (fun _ => True) (.slice A5 out.length c5) out ∧ Below wb.heap.size wb W ∧ wr.heap.size < W.heap.size := fun W hb => ⟨(hb.cell (p := ⟨wr.heap.size, 0, none⟩) (by simp)).trans (by simp), (hb.cell (p := ⟨wr.heap.size, 1, none⟩) (by simp)).trans (by simp), rB (rA HO.out _) hb, (HB.out.alloc HB.out.size _).trans (hb.mono (by simp; have := HB.out.size; omega)), by have := hb.size; simp at this; omega⟩
   have HQB := aM hqb
   clear hqb
   have hq2 : Int.tdiv (i : Int) 2 = (a : Int) := by rw [Int.tdiv_eq_ediv_of_nonneg (by omega)]; omega
   cases b with
   | false =>
    have H' := aM (show mapmakerref20_cuts.go (⟨⟨a1_0, a1_1⟩, ⟨a1_2, a1_3⟩⟩ : S35) ((noding_Split.ends l0).drop (i + 1)) out = some r from H)
    clear H
    rcases hpa with ⟨hia, hp⟩ | ⟨hia, hp⟩
    ·have hm2 : Int.tmod (i : Int) 2 = 0 := by rw [Int.tmod_eq_emod_of_nonneg (by omega)]; omega
     clear hia
     rw [show (rd_T35 l0 (a : Int)).f0.f0 = p.f0 by rw [hp]] at hx0
     rw [show (rd_T35 l0 (a : Int)).f0.f1 = p.f1 by rw [hp]] at hx1
     clear hp
     go_wp2_with (first | (go_at_call 61; refine (mapmakerref09_Within.calls _ _ a1_0 a1_1 a1_2 a1_3 false _ HW.out).mono ?_; rintro e w5 ⟨rfl, hb5⟩; obtain ⟨p0, p1, ho5, hb5', hz5⟩ := HQB.out w5 hb5; have HO5 := aM ho5; have HB5 := aM hb5'; have HZ5 := aM hz5; clear ho5 hb5' hz5 hb5) | go_in)
     go_roundg (2 * l0.length - (i + 1))
     case measure => omega
     case rel => exact ⟨i + 1, out, by omega, by omega, by go_num, H', HO5, HB5⟩
    ·have hm2 : Int.tmod (i : Int) 2 = 1 := by rw [Int.tmod_eq_emod_of_nonneg (by omega)]; omega
     clear hia
     rw [show (rd_T35 l0 (a : Int)).f1.f0 = p.f0 by rw [hp]] at hx2
     rw [show (rd_T35 l0 (a : Int)).f1.f1 = p.f1 by rw [hp]] at hx3
     have y2 := Go.Lib.cell?_alloc_some (.cells #[.int .i64 (rd_T35 l0 (a : Int)).f0.f0, .int .i64 (rd_T35 l0 (a : Int)).f0.f1] 33) hx2
     have y3 := Go.Lib.cell?_alloc_some (.cells #[.int .i64 (rd_T35 l0 (a : Int)).f0.f0, .int .i64 (rd_T35 l0 (a : Int)).f0.f1] 33) hx3
     clear hp
     go_wp2_with (first | (go_at_call 61; refine (mapmakerref09_Within.calls _ _ a1_0 a1_1 a1_2 a1_3 false _ HW.out).mono ?_; rintro e w5 ⟨rfl, hb5⟩; obtain ⟨p0, p1, ho5, hb5', hz5⟩ := HQB.out w5 hb5; have HO5 := aM ho5; have HB5 := aM hb5'; have HZ5 := aM hz5; clear ho5 hb5' hz5 hb5) | go_in)
     go_roundg (2 * l0.length - (i + 1))
     case measure => omega
     case rel => exact ⟨i + 1, out, by omega, by omega, by go_num, H', HO5, HB5⟩
   | true =>
    have hol : out.length < 100000000 := by
     by_cases ha : out.length < 100000000
     ·exact ha
     ·rw [if_pos rfl, if_neg ha] at H; cases H
    rw [if_pos rfl, if_pos hol] at H
    have H' := aM (show mapmakerref20_cuts.go (⟨⟨a1_0, a1_1⟩, ⟨a1_2, a1_3⟩⟩ : S35) ((noding_Split.ends l0).drop (i + 1)) (mapmakerref20_cuts.put p false out) = some r from H)
    clear H
    have hbigo : out.length ≤ 9223372036854775807 := by omega
    have main : ∀ (w5 : World), Below (wr.alloc (.cells #[.int .i64 p.f0, .int .i64 p.f1] 33)).heap.size (wr.alloc (.cells #[.int .i64 p.f0, .int .i64 p.f1] 33)) w5 → True := fun _ _ => trivial
    clear main
    rcases hpa with ⟨hia, hp⟩ | ⟨hia, hp⟩
    ·have hm2 : Int.tmod (i : Int) 2 = 0 := by rw [Int.tmod_eq_emod_of_nonneg (by omega)]; omega
     clear hia
     rw [show (rd_T35 l0 (a : Int)).f0.f0 = p.f0 by rw [hp]] at hx0
     rw [show (rd_T35 l0 (a : Int)).f0.f1 = p.f1 by rw [hp]] at hx1
     clear hp
     go_wp2_with (first | (go_at_call 61; refine (mapmakerref09_Within.calls _ _ a1_0 a1_1 a1_2 a1_3 true _ HW.out).mono ?_; rintro e w5 ⟨rfl, hb5⟩; obtain ⟨p0, p1, ho5, hb5', hz5⟩ := HQB.out w5 hb5; have HO5 := aM ho5; have HB5 := aM hb5'; have HZ5 := aM hz5; clear ho5 hb5' hz5 hb5) | go_in)
     clear hx0 hx1 hx2 hx3 s0 s1 s2 s3 t0 t1 t2 t3 hq2 hm2 HQB HO HB
     have HC5 := aM (rR HO5.out).2.2
     obtain ⟨pb, hpb⟩ : ∃ pb, pb = wr.heap.size := ⟨_, rfl⟩
     rw [← hpb]
     rw [← hpb] at p0 p1 HZ5
     clear hpb
     have P0 := aM p0
     have P1 := aM p1
     clear p0 p1
     have HPP := aM (show ∀ W, Below w5.heap.size w5 W → W.cell? ⟨pb, 0, none⟩ = some (.int .i64 p.f0) ∧ W.cell? ⟨pb, 1, none⟩ = some (.int .i64 p.f1) from fun W hb => ⟨(hb.cell (p := ⟨pb, 0, none⟩) HZ5.out).trans P0.out, (hb.cell (p := ⟨pb, 1, none⟩) HZ5.out).trans P1.out⟩)
     go_loopg [10, 8, 9] out.length (fun g2 v10 v8 v9 wi => ∃ (m : Nat) (inn : Bool) (acc : List S33), m ≤ out.length ∧ out.length - m ≤ g2 ∧ v10 = .int .i64 m ∧ v9 = .bool inn ∧ acc.length ≤ 2 * m ∧ mapmakerref20_cuts.put p false out = acc ++ mapmakerref20_cuts.put p inn (out.drop m) ∧ Aside0 (Kd.R k33 33 wi w5.heap.size (fun _ => True) v8 acc) ∧ Aside0 (Below w5.heap.size w5 wi))
     case atStart => exact ⟨0, false, [], by omega, by omega, rfl, rfl, by simp, by simp, ⟨Kd.R_nil _ _ _ _ _⟩, ⟨Below.refl _ _⟩⟩
     case round =>
      obtain ⟨m, inn, acc, hm, hg2, rfl, rfl, hal, hput, HM, HBi⟩ := hrel
      by_cases hml : m < out.length
      ·have hmlI : (m : Int) < (out.length : Int) := by omega
       obtain ⟨ad2, e0, hq0, hq1⟩ := at_T33 HC5.out (m : Int) (by omega) (by omega)
       cases e0
       have hy : rd_T33 out (m : Int) = out[m] := by unfold rd_T33; rw [Int.toNat_natCast, List.getD_eq_getElem?_getD, List.getElem?_eq_getElem hml]; rfl
       rw [List.drop_eq_getElem_cons hml] at hput
       rw [hy, Int.toNat_natCast] at hq0 hq1
       clear hy
       generalize out[m] = q at hq0 hq1 hput
       have HPQ := aM (show ∀ W, Below w5.heap.size w5 W → W.cell? ⟨pb, 0, none⟩ = some (.int .i64 p.f0) ∧ W.cell? ⟨pb, 1, none⟩ = some (.int .i64 p.f1) ∧ W.cell? (ad2.add (m * 2)) = some (.int .i64 q.f0) ∧ W.cell? ⟨(ad2.add (m * 2)).block, (ad2.add (m * 2)).off + 1, none⟩ = some (.int .i64 q.f1) from fun W hb => ⟨(HPP.out W hb).1, (HPP.out W hb).2, (hb.cell (World.block_lt_of_cell? _ _ hq0)).trans hq0, (hb.cell (World.block_lt_of_cell? _ _ hq1)).trans hq1⟩)
       clear hq0 hq1
       obtain ⟨p0, p1, q0, q1⟩ := HPQ.out wr HBi.out
       cases inn with
       | true =>
        have hlb : True := trivial
        go_wp2
        go_region
        have HM2 := aM (rD HM.out)
        have HB2 := aM (bD HBi.out)
        generalize World.drew _ = w7 at HM2 HB2 ⊢
        clear HM HBi p0 p1 q0 q1
        have HM := HM2
        have HBi := HB2
        clear HM2 HB2
        obtain ⟨p0, p1, q0, q1⟩ := HPQ.out w7 HBi.out
        go_wp2
        by_cases hee : eqs33 q p = true
        ·have he1 : (q.f0 == p.f0 && (q.f1 == p.f1)) = true := hee
         have he2 : (!(q.f0 == p.f0) || (!(q.f1 == p.f1))) = false := by rw [← Bool.not_and, he1]; rfl
         go_region
         all_goals
          have HM2 := aM (rD HM.out)
          have HB2 := aM (bD HBi.out)
          generalize World.drew _ = w7 at HM2 HB2 ⊢
          clear HM HBi p0 p1 q0 q1
          have HM := HM2
          have HBi := HB2
          clear HM2 HB2
          obtain ⟨p0, p1, q0, q1⟩ := HPQ.out w7 HBi.out
          go_wp2
          go_roundg (out.length - (m + 1))
          case measure => omega
          case rel => exact ⟨m + 1, true, acc, by omega, by omega, by go_num, rfl, by first | omega | (simp; omega), by rw [hput]; simp [mapmakerref20_cuts.put, hlb, hee], HM, HBi⟩
        ·rw [Bool.not_eq_true] at hee
         have he1 : (q.f0 == p.f0 && (q.f1 == p.f1)) = false := hee
         have he2 : (!(q.f0 == p.f0) || (!(q.f1 == p.f1))) = true := by rw [← Bool.not_and, he1]; rfl
         go_region
         all_goals
          have HM2 := aM (rD HM.out)
          have HB2 := aM (bD HBi.out)
          generalize World.drew _ = w7 at HM2 HB2 ⊢
          clear HM HBi p0 p1 q0 q1
          have HM := HM2
          have HBi := HB2
          clear HM2 HB2
          obtain ⟨p0, p1, q0, q1⟩ := HPQ.out w7 HBi.out
          go_wp2_with (first | ((with_reducible refine gate_builtin (b := .append) (xs := #[.tmp 67, .tmp 72]) rfl ?_); at_builtin; refine Kd.R_append k33 (w0 := w5) w5.heap.size rfl (.tmp 67) (.tmp 72) 22 33 (.agg #[(.int .i64 0), (.int .i64 0)]) 16 rfl Try.underlying22 info33 rfl (by decide) (by omega) _ (acc) q [.int .i64 q.f0, .int .i64 q.f1] (fun _ => True) (fun _ => False) rfl rfl (k33_mkM _ _ _ q) (fun _ hk => hk.elim) (fun _ _ => trivial) HM.out HBi.out HBi.out.size (by first | omega | (simp; omega)) ?_; intro v6 w6 ho6 hb6 hg6 hat6; have HM2 := aM ho6; have HB2 := aM hb6; clear HM HBi ho6 hb6 hg6 hat6 p0 p1 q0 q1; have HM := HM2; have HBi := HB2; clear HM2 HB2; obtain ⟨p0, p1, q0, q1⟩ := HPQ.out w6 HBi.out) | go_in)
          go_roundg (out.length - (m + 1))
          case measure => omega
          case rel => exact ⟨m + 1, true, acc ++ [q], by omega, by omega, by go_num, rfl, by first | omega | (simp; omega), by rw [hput]; simp [mapmakerref20_cuts.put, hlb, hee], HM, HBi⟩
       | false =>
        cases hlb : less8 q p with
        | true =>
         go_wp2
         go_region_with (first | (go_at_call 47; refine (mapmakerref08_Less.calls q.f0 q.f1 p.f0 p.f1 true _ (by rw [less8_some, hlb])).mono ?_; rintro e w7 ⟨rfl, hb7⟩; have HM2 := aM (rB (rD HM.out) hb7); have HB2 := aM ((bD HBi.out).trans (hb7.mono (bD HBi.out).size)); clear HM HBi p0 p1 q0 q1 hb7; have HM := HM2; have HBi := HB2; clear HM2 HB2; obtain ⟨p0, p1, q0, q1⟩ := HPQ.out _ HBi.out))
         all_goals
          go_wp2
          by_cases hee : eqs33 q p = true
          ·have he1 : (q.f0 == p.f0 && (q.f1 == p.f1)) = true := hee
           have he2 : (!(q.f0 == p.f0) || (!(q.f1 == p.f1))) = false := by rw [← Bool.not_and, he1]; rfl
           go_region
           all_goals
            have HM2 := aM (rD HM.out)
            have HB2 := aM (bD HBi.out)
            generalize World.drew _ = w7 at HM2 HB2 ⊢
            clear HM HBi p0 p1 q0 q1
            have HM := HM2
            have HBi := HB2
            clear HM2 HB2
            obtain ⟨p0, p1, q0, q1⟩ := HPQ.out w7 HBi.out
            go_wp2
            go_roundg (out.length - (m + 1))
            case measure => omega
            case rel => exact ⟨m + 1, false, acc, by omega, by omega, by go_num, rfl, by first | omega | (simp; omega), by rw [hput]; simp [mapmakerref20_cuts.put, hlb, hee], HM, HBi⟩
          ·rw [Bool.not_eq_true] at hee
           have he1 : (q.f0 == p.f0 && (q.f1 == p.f1)) = false := hee
           have he2 : (!(q.f0 == p.f0) || (!(q.f1 == p.f1))) = true := by rw [← Bool.not_and, he1]; rfl
           go_region
           all_goals
            have HM2 := aM (rD HM.out)
            have HB2 := aM (bD HBi.out)
            generalize World.drew _ = w7 at HM2 HB2 ⊢
            clear HM HBi p0 p1 q0 q1
            have HM := HM2
            have HBi := HB2
            clear HM2 HB2
            obtain ⟨p0, p1, q0, q1⟩ := HPQ.out w7 HBi.out
            go_wp2_with (first | ((with_reducible refine gate_builtin (b := .append) (xs := #[.tmp 67, .tmp 72]) rfl ?_); at_builtin; refine Kd.R_append k33 (w0 := w5) w5.heap.size rfl (.tmp 67) (.tmp 72) 22 33 (.agg #[(.int .i64 0), (.int .i64 0)]) 16 rfl Try.underlying22 info33 rfl (by decide) (by omega) _ (acc) q [.int .i64 q.f0, .int .i64 q.f1] (fun _ => True) (fun _ => False) rfl rfl (k33_mkM _ _ _ q) (fun _ hk => hk.elim) (fun _ _ => trivial) HM.out HBi.out HBi.out.size (by first | omega | (simp; omega)) ?_; intro v6 w6 ho6 hb6 hg6 hat6; have HM2 := aM ho6; have HB2 := aM hb6; clear HM HBi ho6 hb6 hg6 hat6 p0 p1 q0 q1; have HM := HM2; have HBi := HB2; clear HM2 HB2; obtain ⟨p0, p1, q0, q1⟩ := HPQ.out w6 HBi.out) | go_in)
            go_roundg (out.length - (m + 1))
            case measure => omega
            case rel => exact ⟨m + 1, false, acc ++ [q], by omega, by omega, by go_num, rfl, by first | omega | (simp; omega), by rw [hput]; simp [mapmakerref20_cuts.put, hlb, hee], HM, HBi⟩
        | false =>
         go_wp2
         go_region_with (first | (go_at_call 47; refine (mapmakerref08_Less.calls q.f0 q.f1 p.f0 p.f1 false _ (by rw [less8_some, hlb])).mono ?_; rintro e w7 ⟨rfl, hb7⟩; have HM2 := aM (rB (rD HM.out) hb7); have HB2 := aM ((bD HBi.out).trans (hb7.mono (bD HBi.out).size)); clear HM HBi p0 p1 q0 q1 hb7; have HM := HM2; have HBi := HB2; clear HM2 HB2; obtain ⟨p0, p1, q0, q1⟩ := HPQ.out _ HBi.out))
         all_goals
          go_wp2_with (first | ((with_reducible refine gate_builtin (b := .append) (xs := #[.tmp 57, .tmp 59]) rfl ?_); at_builtin; refine Kd.R_append k33 (w0 := w5) w5.heap.size rfl (.tmp 57) (.tmp 59) 22 33 (.agg #[(.int .i64 0), (.int .i64 0)]) 16 rfl Try.underlying22 info33 rfl (by decide) (by omega) _ (acc) p [.int .i64 p.f0, .int .i64 p.f1] (fun _ => True) (fun _ => False) rfl rfl (k33_mkM _ _ _ p) (fun _ hk => hk.elim) (fun _ _ => trivial) HM.out HBi.out HBi.out.size (by first | omega | (simp; omega)) ?_; intro v6 w6 ho6 hb6 hg6 hat6; have HM2 := aM ho6; have HB2 := aM hb6; clear HM HBi ho6 hb6 hg6 hat6 p0 p1 q0 q1; have HM := HM2; have HBi := HB2; clear HM2 HB2; obtain ⟨p0, p1, q0, q1⟩ := HPQ.out w6 HBi.out) | go_in)
          by_cases hee : eqs33 q p = true
          ·have he1 : (q.f0 == p.f0 && (q.f1 == p.f1)) = true := hee
           have he2 : (!(q.f0 == p.f0) || (!(q.f1 == p.f1))) = false := by rw [← Bool.not_and, he1]; rfl
           go_region
           all_goals
            have HM2 := aM (rD HM.out)
            have HB2 := aM (bD HBi.out)
            generalize World.drew _ = w7 at HM2 HB2 ⊢
            clear HM HBi p0 p1 q0 q1
            have HM := HM2
            have HBi := HB2
            clear HM2 HB2
            obtain ⟨p0, p1, q0, q1⟩ := HPQ.out w7 HBi.out
            go_wp2
            go_roundg (out.length - (m + 1))
            case measure => omega
            case rel => exact ⟨m + 1, true, acc ++ [p], by omega, by omega, by go_num, rfl, by first | omega | (simp; omega), by rw [hput]; simp [mapmakerref20_cuts.put, hlb, hee], HM, HBi⟩
          ·rw [Bool.not_eq_true] at hee
           have he1 : (q.f0 == p.f0 && (q.f1 == p.f1)) = false := hee
           have he2 : (!(q.f0 == p.f0) || (!(q.f1 == p.f1))) = true := by rw [← Bool.not_and, he1]; rfl
           go_region
           all_goals
            have HM2 := aM (rD HM.out)
            have HB2 := aM (bD HBi.out)
            generalize World.drew _ = w7 at HM2 HB2 ⊢
            clear HM HBi p0 p1 q0 q1
            have HM := HM2
            have HBi := HB2
            clear HM2 HB2
            obtain ⟨p0, p1, q0, q1⟩ := HPQ.out w7 HBi.out
            go_wp2_with (first | ((with_reducible refine gate_builtin (b := .append) (xs := #[.tmp 67, .tmp 72]) rfl ?_); at_builtin; refine Kd.R_append k33 (w0 := w5) w5.heap.size rfl (.tmp 67) (.tmp 72) 22 33 (.agg #[(.int .i64 0), (.int .i64 0)]) 16 rfl Try.underlying22 info33 rfl (by decide) (by omega) _ (acc ++ [p]) q [.int .i64 q.f0, .int .i64 q.f1] (fun _ => True) (fun _ => False) rfl rfl (k33_mkM _ _ _ q) (fun _ hk => hk.elim) (fun _ _ => trivial) HM.out HBi.out HBi.out.size (by first | omega | (simp; omega)) ?_; intro v6 w6 ho6 hb6 hg6 hat6; have HM2 := aM ho6; have HB2 := aM hb6; clear HM HBi ho6 hb6 hg6 hat6 p0 p1 q0 q1; have HM := HM2; have HBi := HB2; clear HM2 HB2; obtain ⟨p0, p1, q0, q1⟩ := HPQ.out w6 HBi.out) | go_in)
            go_roundg (out.length - (m + 1))
            case measure => omega
            case rel => exact ⟨m + 1, true, acc ++ [p] ++ [q], by omega, by omega, by go_num, rfl, by first | omega | (simp; omega), by rw [hput]; simp [mapmakerref20_cuts.put, hlb, hee], HM, HBi⟩
      ·have hml2 : m = out.length := by omega
       subst hml2
       rw [List.drop_length] at hput
       obtain ⟨p0, p1⟩ := HPP.out wr HBi.out
       cases inn with
       | true =>
        have H2 := aM (show mapmakerref20_cuts.go (⟨⟨a1_0, a1_1⟩, ⟨a1_2, a1_3⟩⟩ : S35) ((noding_Split.ends l0).drop (i + 1)) acc = some r from by have hh := H'.out; rw [hput] at hh; simpa [mapmakerref20_cuts.put] using hh)
        clear hput
        go_wp2
        go_roundg (2 * l0.length - (i + 1))
        case measure => omega
        case rel => exact ⟨i + 1, acc, by omega, by omega, by go_num, H2, ⟨Kd.R_lower HM.out HB5.out.size⟩, ⟨HB5.out.trans (HBi.out.mono HB5.out.size)⟩⟩
       | false =>
        have H2 := aM (show mapmakerref20_cuts.go (⟨⟨a1_0, a1_1⟩, ⟨a1_2, a1_3⟩⟩ : S35) ((noding_Split.ends l0).drop (i + 1)) (acc ++ [p]) = some r from by have hh := H'.out; rw [hput] at hh; simpa [mapmakerref20_cuts.put] using hh)
        clear hput
        go_wp2_with (first | ((with_reducible refine gate_builtin (b := .append) (xs := #[.tmp 76, .tmp 78]) rfl ?_); at_builtin; refine Kd.R_append k33 (w0 := w5) w5.heap.size rfl (.tmp 76) (.tmp 78) 22 33 (.agg #[(.int .i64 0), (.int .i64 0)]) 16 rfl Try.underlying22 info33 rfl (by decide) (by omega) _ (acc) p [.int .i64 p.f0, .int .i64 p.f1] (fun _ => True) (fun _ => False) rfl rfl (k33_mkM _ _ _ p) (fun _ hk => hk.elim) (fun _ _ => trivial) HM.out HBi.out HBi.out.size (by first | omega | (simp; omega)) ?_; intro v6 w6 ho6 hb6 hg6 hat6; have HM2 := aM ho6; have HB2 := aM hb6; clear HM HBi ho6 hb6 hg6 hat6 p0 p1; have HM := HM2; have HBi := HB2; clear HM2 HB2; obtain ⟨p0, p1⟩ := HPP.out w6 HBi.out) | go_in)
        go_roundg (2 * l0.length - (i + 1))
        case measure => omega
        case rel => exact ⟨i + 1, acc ++ [p], by omega, by omega, by go_num, H2, ⟨Kd.R_lower HM.out HB5.out.size⟩, ⟨HB5.out.trans (HBi.out.mono HB5.out.size)⟩⟩
    ·have hm2 : Int.tmod (i : Int) 2 = 1 := by rw [Int.tmod_eq_emod_of_nonneg (by omega)]; omega
     clear hia
     rw [show (rd_T35 l0 (a : Int)).f1.f0 = p.f0 by rw [hp]] at hx2
     rw [show (rd_T35 l0 (a : Int)).f1.f1 = p.f1 by rw [hp]] at hx3
     have y2 := Go.Lib.cell?_alloc_some (.cells #[.int .i64 (rd_T35 l0 (a : Int)).f0.f0, .int .i64 (rd_T35 l0 (a : Int)).f0.f1] 33) hx2
     have y3 := Go.Lib.cell?_alloc_some (.cells #[.int .i64 (rd_T35 l0 (a : Int)).f0.f0, .int .i64 (rd_T35 l0 (a : Int)).f0.f1] 33) hx3
     clear hp
     go_wp2_with (first | (go_at_call 61; refine (mapmakerref09_Within.calls _ _ a1_0 a1_1 a1_2 a1_3 true _ HW.out).mono ?_; rintro e w5 ⟨rfl, hb5⟩; obtain ⟨p0, p1, ho5, hb5', hz5⟩ := HQB.out w5 hb5; have HO5 := aM ho5; have HB5 := aM hb5'; have HZ5 := aM hz5; clear ho5 hb5' hz5 hb5) | go_in)
     clear hx0 hx1 hx2 hx3 s0 s1 s2 s3 t0 t1 t2 t3 hq2 hm2 HQB HO HB
     have HC5 := aM (rR HO5.out).2.2
     obtain ⟨pb, hpb⟩ : ∃ pb, pb = wr.heap.size := ⟨_, rfl⟩
     rw [← hpb]
     rw [← hpb] at p0 p1 HZ5
     clear hpb
     have P0 := aM p0
     have P1 := aM p1
     clear p0 p1
     have HPP := aM (show ∀ W, Below w5.heap.size w5 W → W.cell? ⟨pb, 0, none⟩ = some (.int .i64 p.f0) ∧ W.cell? ⟨pb, 1, none⟩ = some (.int .i64 p.f1) from fun W hb => ⟨(hb.cell (p := ⟨pb, 0, none⟩) HZ5.out).trans P0.out, (hb.cell (p := ⟨pb, 1, none⟩) HZ5.out).trans P1.out⟩)
     go_loopg [10, 8, 9] out.length (fun g2 v10 v8 v9 wi => ∃ (m : Nat) (inn : Bool) (acc : List S33), m ≤ out.length ∧ out.length - m ≤ g2 ∧ v10 = .int .i64 m ∧ v9 = .bool inn ∧ acc.length ≤ 2 * m ∧ mapmakerref20_cuts.put p false out = acc ++ mapmakerref20_cuts.put p inn (out.drop m) ∧ Aside0 (Kd.R k33 33 wi w5.heap.size (fun _ => True) v8 acc) ∧ Aside0 (Below w5.heap.size w5 wi))
     case atStart => exact ⟨0, false, [], by omega, by omega, rfl, rfl, by simp, by simp, ⟨Kd.R_nil _ _ _ _ _⟩, ⟨Below.refl _ _⟩⟩
     case round =>
      obtain ⟨m, inn, acc, hm, hg2, rfl, rfl, hal, hput, HM, HBi⟩ := hrel
      by_cases hml : m < out.length
      ·have hmlI : (m : Int) < (out.length : Int) := by omega
       obtain ⟨ad2, e0, hq0, hq1⟩ := at_T33 HC5.out (m : Int) (by omega) (by omega)
       cases e0
       have hy : rd_T33 out (m : Int) = out[m] := by unfold rd_T33; rw [Int.toNat_natCast, List.getD_eq_getElem?_getD, List.getElem?_eq_getElem hml]; rfl
       rw [List.drop_eq_getElem_cons hml] at hput
       rw [hy, Int.toNat_natCast] at hq0 hq1
       clear hy
       generalize out[m] = q at hq0 hq1 hput
       have HPQ := aM (show ∀ W, Below w5.heap.size w5 W → W.cell? ⟨pb, 0, none⟩ = some (.int .i64 p.f0) ∧ W.cell? ⟨pb, 1, none⟩ = some (.int .i64 p.f1) ∧ W.cell? (ad2.add (m * 2)) = some (.int .i64 q.f0) ∧ W.cell? ⟨(ad2.add (m * 2)).block, (ad2.add (m * 2)).off + 1, none⟩ = some (.int .i64 q.f1) from fun W hb => ⟨(HPP.out W hb).1, (HPP.out W hb).2, (hb.cell (World.block_lt_of_cell? _ _ hq0)).trans hq0, (hb.cell (World.block_lt_of_cell? _ _ hq1)).trans hq1⟩)
       clear hq0 hq1
       obtain ⟨p0, p1, q0, q1⟩ := HPQ.out wr HBi.out
       cases inn with
       | true =>
        have hlb : True := trivial
        go_wp2
        go_region
        have HM2 := aM (rD HM.out)
        have HB2 := aM (bD HBi.out)
        generalize World.drew _ = w7 at HM2 HB2 ⊢
        clear HM HBi p0 p1 q0 q1
        have HM := HM2
        have HBi := HB2
        clear HM2 HB2
        obtain ⟨p0, p1, q0, q1⟩ := HPQ.out w7 HBi.out
        go_wp2
        by_cases hee : eqs33 q p = true
        ·have he1 : (q.f0 == p.f0 && (q.f1 == p.f1)) = true := hee
         have he2 : (!(q.f0 == p.f0) || (!(q.f1 == p.f1))) = false := by rw [← Bool.not_and, he1]; rfl
         go_region
         all_goals
          have HM2 := aM (rD HM.out)
          have HB2 := aM (bD HBi.out)
          generalize World.drew _ = w7 at HM2 HB2 ⊢
          clear HM HBi p0 p1 q0 q1
          have HM := HM2
          have HBi := HB2
          clear HM2 HB2
          obtain ⟨p0, p1, q0, q1⟩ := HPQ.out w7 HBi.out
          go_wp2
          go_roundg (out.length - (m + 1))
          case measure => omega
          case rel => exact ⟨m + 1, true, acc, by omega, by omega, by go_num, rfl, by first | omega | (simp; omega), by rw [hput]; simp [mapmakerref20_cuts.put, hlb, hee], HM, HBi⟩
        ·rw [Bool.not_eq_true] at hee
         have he1 : (q.f0 == p.f0 && (q.f1 == p.f1)) = false := hee
         have he2 : (!(q.f0 == p.f0) || (!(q.f1 == p.f1))) = true := by rw [← Bool.not_and, he1]; rfl
         go_region
         all_goals
          have HM2 := aM (rD HM.out)
          have HB2 := aM (bD HBi.out)
          generalize World.drew _ = w7 at HM2 HB2 ⊢
          clear HM HBi p0 p1 q0 q1
          have HM := HM2
          have HBi := HB2
          clear HM2 HB2
          obtain ⟨p0, p1, q0, q1⟩ := HPQ.out w7 HBi.out
          go_wp2_with (first | ((with_reducible refine gate_builtin (b := .append) (xs := #[.tmp 67, .tmp 72]) rfl ?_); at_builtin; refine Kd.R_append k33 (w0 := w5) w5.heap.size rfl (.tmp 67) (.tmp 72) 22 33 (.agg #[(.int .i64 0), (.int .i64 0)]) 16 rfl Try.underlying22 info33 rfl (by decide) (by omega) _ (acc) q [.int .i64 q.f0, .int .i64 q.f1] (fun _ => True) (fun _ => False) rfl rfl (k33_mkM _ _ _ q) (fun _ hk => hk.elim) (fun _ _ => trivial) HM.out HBi.out HBi.out.size (by first | omega | (simp; omega)) ?_; intro v6 w6 ho6 hb6 hg6 hat6; have HM2 := aM ho6; have HB2 := aM hb6; clear HM HBi ho6 hb6 hg6 hat6 p0 p1 q0 q1; have HM := HM2; have HBi := HB2; clear HM2 HB2; obtain ⟨p0, p1, q0, q1⟩ := HPQ.out w6 HBi.out) | go_in)
          go_roundg (out.length - (m + 1))
          case measure => omega
          case rel => exact ⟨m + 1, true, acc ++ [q], by omega, by omega, by go_num, rfl, by first | omega | (simp; omega), by rw [hput]; simp [mapmakerref20_cuts.put, hlb, hee], HM, HBi⟩
       | false =>
        cases hlb : less8 q p with
        | true =>
         go_wp2
         go_region_with (first | (go_at_call 47; refine (mapmakerref08_Less.calls q.f0 q.f1 p.f0 p.f1 true _ (by rw [less8_some, hlb])).mono ?_; rintro e w7 ⟨rfl, hb7⟩; have HM2 := aM (rB (rD HM.out) hb7); have HB2 := aM ((bD HBi.out).trans (hb7.mono (bD HBi.out).size)); clear HM HBi p0 p1 q0 q1 hb7; have HM := HM2; have HBi := HB2; clear HM2 HB2; obtain ⟨p0, p1, q0, q1⟩ := HPQ.out _ HBi.out))
         all_goals
          go_wp2
          by_cases hee : eqs33 q p = true
          ·have he1 : (q.f0 == p.f0 && (q.f1 == p.f1)) = true := hee
           have he2 : (!(q.f0 == p.f0) || (!(q.f1 == p.f1))) = false := by rw [← Bool.not_and, he1]; rfl
           go_region
           all_goals
            have HM2 := aM (rD HM.out)
            have HB2 := aM (bD HBi.out)
            generalize World.drew _ = w7 at HM2 HB2 ⊢
            clear HM HBi p0 p1 q0 q1
            have HM := HM2
            have HBi := HB2
            clear HM2 HB2
            obtain ⟨p0, p1, q0, q1⟩ := HPQ.out w7 HBi.out
            go_wp2
            go_roundg (out.length - (m + 1))
            case measure => omega
            case rel => exact ⟨m + 1, false, acc, by omega, by omega, by go_num, rfl, by first | omega | (simp; omega), by rw [hput]; simp [mapmakerref20_cuts.put, hlb, hee], HM, HBi⟩
          ·rw [Bool.not_eq_true] at hee
           have he1 : (q.f0 == p.f0 && (q.f1 == p.f1)) = false := hee
           have he2 : (!(q.f0 == p.f0) || (!(q.f1 == p.f1))) = true := by rw [← Bool.not_and, he1]; rfl
           go_region
           all_goals
            have HM2 := aM (rD HM.out)
            have HB2 := aM (bD HBi.out)
            generalize World.drew _ = w7 at HM2 HB2 ⊢
            clear HM HBi p0 p1 q0 q1
            have HM := HM2
            have HBi := HB2
            clear HM2 HB2
            obtain ⟨p0, p1, q0, q1⟩ := HPQ.out w7 HBi.out
            go_wp2_with (first | ((with_reducible refine gate_builtin (b := .append) (xs := #[.tmp 67, .tmp 72]) rfl ?_); at_builtin; refine Kd.R_append k33 (w0 := w5) w5.heap.size rfl (.tmp 67) (.tmp 72) 22 33 (.agg #[(.int .i64 0), (.int .i64 0)]) 16 rfl Try.underlying22 info33 rfl (by decide) (by omega) _ (acc) q [.int .i64 q.f0, .int .i64 q.f1] (fun _ => True) (fun _ => False) rfl rfl (k33_mkM _ _ _ q) (fun _ hk => hk.elim) (fun _ _ => trivial) HM.out HBi.out HBi.out.size (by first | omega | (simp; omega)) ?_; intro v6 w6 ho6 hb6 hg6 hat6; have HM2 := aM ho6; have HB2 := aM hb6; clear HM HBi ho6 hb6 hg6 hat6 p0 p1 q0 q1; have HM := HM2; have HBi := HB2; clear HM2 HB2; obtain ⟨p0, p1, q0, q1⟩ := HPQ.out w6 HBi.out) | go_in)
            go_roundg (out.length - (m + 1))
            case measure => omega
            case rel => exact ⟨m + 1, false, acc ++ [q], by omega, by omega, by go_num, rfl, by first | omega | (simp; omega), by rw [hput]; simp [mapmakerref20_cuts.put, hlb, hee], HM, HBi⟩
        | false =>
         go_wp2
         go_region_with (first | (go_at_call 47; refine (mapmakerref08_Less.calls q.f0 q.f1 p.f0 p.f1 false _ (by rw [less8_some, hlb])).mono ?_; rintro e w7 ⟨rfl, hb7⟩; have HM2 := aM (rB (rD HM.out) hb7); have HB2 := aM ((bD HBi.out).trans (hb7.mono (bD HBi.out).size)); clear HM HBi p0 p1 q0 q1 hb7; have HM := HM2; have HBi := HB2; clear HM2 HB2; obtain ⟨p0, p1, q0, q1⟩ := HPQ.out _ HBi.out))
         all_goals
          go_wp2_with (first | ((with_reducible refine gate_builtin (b := .append) (xs := #[.tmp 57, .tmp 59]) rfl ?_); at_builtin; refine Kd.R_append k33 (w0 := w5) w5.heap.size rfl (.tmp 57) (.tmp 59) 22 33 (.agg #[(.int .i64 0), (.int .i64 0)]) 16 rfl Try.underlying22 info33 rfl (by decide) (by omega) _ (acc) p [.int .i64 p.f0, .int .i64 p.f1] (fun _ => True) (fun _ => False) rfl rfl (k33_mkM _ _ _ p) (fun _ hk => hk.elim) (fun _ _ => trivial) HM.out HBi.out HBi.out.size (by first | omega | (simp; omega)) ?_; intro v6 w6 ho6 hb6 hg6 hat6; have HM2 := aM ho6; have HB2 := aM hb6; clear HM HBi ho6 hb6 hg6 hat6 p0 p1 q0 q1; have HM := HM2; have HBi := HB2; clear HM2 HB2; obtain ⟨p0, p1, q0, q1⟩ := HPQ.out w6 HBi.out) | go_in)
          by_cases hee : eqs33 q p = true
          ·have he1 : (q.f0 == p.f0 && (q.f1 == p.f1)) = true := hee
           have he2 : (!(q.f0 == p.f0) || (!(q.f1 == p.f1))) = false := by rw [← Bool.not_and, he1]; rfl
           go_region
           all_goals
            have HM2 := aM (rD HM.out)
            have HB2 := aM (bD HBi.out)
            generalize World.drew _ = w7 at HM2 HB2 ⊢
            clear HM HBi p0 p1 q0 q1
            have HM := HM2
            have HBi := HB2
            clear HM2 HB2
            obtain ⟨p0, p1, q0, q1⟩ := HPQ.out w7 HBi.out
            go_wp2
            go_roundg (out.length - (m + 1))
            case measure => omega
            case rel => exact ⟨m + 1, true, acc ++ [p], by omega, by omega, by go_num, rfl, by first | omega | (simp; omega), by rw [hput]; simp [mapmakerref20_cuts.put, hlb, hee], HM, HBi⟩
          ·rw [Bool.not_eq_true] at hee
           have he1 : (q.f0 == p.f0 && (q.f1 == p.f1)) = false := hee
           have he2 : (!(q.f0 == p.f0) || (!(q.f1 == p.f1))) = true := by rw [← Bool.not_and, he1]; rfl
           go_region
           all_goals
            have HM2 := aM (rD HM.out)
            have HB2 := aM (bD HBi.out)
            generalize World.drew _ = w7 at HM2 HB2 ⊢
            clear HM HBi p0 p1 q0 q1
            have HM := HM2
            have HBi := HB2
            clear HM2 HB2
            obtain ⟨p0, p1, q0, q1⟩ := HPQ.out w7 HBi.out
            go_wp2_with (first | ((with_reducible refine gate_builtin (b := .append) (xs := #[.tmp 67, .tmp 72]) rfl ?_); at_builtin; refine Kd.R_append k33 (w0 := w5) w5.heap.size rfl (.tmp 67) (.tmp 72) 22 33 (.agg #[(.int .i64 0), (.int .i64 0)]) 16 rfl Try.underlying22 info33 rfl (by decide) (by omega) _ (acc ++ [p]) q [.int .i64 q.f0, .int .i64 q.f1] (fun _ => True) (fun _ => False) rfl rfl (k33_mkM _ _ _ q) (fun _ hk => hk.elim) (fun _ _ => trivial) HM.out HBi.out HBi.out.size (by first | omega | (simp; omega)) ?_; intro v6 w6 ho6 hb6 hg6 hat6; have HM2 := aM ho6; have HB2 := aM hb6; clear HM HBi ho6 hb6 hg6 hat6 p0 p1 q0 q1; have HM := HM2; have HBi := HB2; clear HM2 HB2; obtain ⟨p0, p1, q0, q1⟩ := HPQ.out w6 HBi.out) | go_in)
            go_roundg (out.length - (m + 1))
            case measure => omega
            case rel => exact ⟨m + 1, true, acc ++ [p] ++ [q], by omega, by omega, by go_num, rfl, by first | omega | (simp; omega), by rw [hput]; simp [mapmakerref20_cuts.put, hlb, hee], HM, HBi⟩
      ·have hml2 : m = out.length := by omega
       subst hml2
       rw [List.drop_length] at hput
       obtain ⟨p0, p1⟩ := HPP.out wr HBi.out
       cases inn with
       | true =>
        have H2 := aM (show mapmakerref20_cuts.go (⟨⟨a1_0, a1_1⟩, ⟨a1_2, a1_3⟩⟩ : S35) ((noding_Split.ends l0).drop (i + 1)) acc = some r from by have hh := H'.out; rw [hput] at hh; simpa [mapmakerref20_cuts.put] using hh)
        clear hput
        go_wp2
        go_roundg (2 * l0.length - (i + 1))
        case measure => omega
        case rel => exact ⟨i + 1, acc, by omega, by omega, by go_num, H2, ⟨Kd.R_lower HM.out HB5.out.size⟩, ⟨HB5.out.trans (HBi.out.mono HB5.out.size)⟩⟩
       | false =>
        have H2 := aM (show mapmakerref20_cuts.go (⟨⟨a1_0, a1_1⟩, ⟨a1_2, a1_3⟩⟩ : S35) ((noding_Split.ends l0).drop (i + 1)) (acc ++ [p]) = some r from by have hh := H'.out; rw [hput] at hh; simpa [mapmakerref20_cuts.put] using hh)
        clear hput
        go_wp2_with (first | ((with_reducible refine gate_builtin (b := .append) (xs := #[.tmp 76, .tmp 78]) rfl ?_); at_builtin; refine Kd.R_append k33 (w0 := w5) w5.heap.size rfl (.tmp 76) (.tmp 78) 22 33 (.agg #[(.int .i64 0), (.int .i64 0)]) 16 rfl Try.underlying22 info33 rfl (by decide) (by omega) _ (acc) p [.int .i64 p.f0, .int .i64 p.f1] (fun _ => True) (fun _ => False) rfl rfl (k33_mkM _ _ _ p) (fun _ hk => hk.elim) (fun _ _ => trivial) HM.out HBi.out HBi.out.size (by first | omega | (simp; omega)) ?_; intro v6 w6 ho6 hb6 hg6 hat6; have HM2 := aM ho6; have HB2 := aM hb6; clear HM HBi ho6 hb6 hg6 hat6 p0 p1; have HM := HM2; have HBi := HB2; clear HM2 HB2; obtain ⟨p0, p1⟩ := HPP.out w6 HBi.out) | go_in)
        go_roundg (2 * l0.length - (i + 1))
        case measure => omega
        case rel => exact ⟨i + 1, acc ++ [p], by omega, by omega, by go_num, H2, ⟨Kd.R_lower HM.out HB5.out.size⟩, ⟨HB5.out.trans (HBi.out.mono HB5.out.size)⟩⟩
  ·have hie : i = 2 * l0.length := by omega
   subst hie
   have H := HA.out
   rw [List.drop_eq_nil_of_le (by rw [noding_Split.ends_length]; omega)] at H
   obtain rfl := Option.some.inj (show some out = some r from H)
   go_wp2
   go_ret
   exact ⟨_, rfl, Kd.R_lower HO.out HB0.out.size, HB0.out.trans (HB.out.mono HB0.out.size)⟩
mutual
def mapmakerref20_Split.l0 : Nat → List (S35) → List (S35) → Int → Option ((List (S35)))
 | 0, _, _, _ => none
 | k + 1, x3, x4, x5 => if x5 < (x3.length : Int) then (if 0 ≤ x5 then ((mapmakerref20_cuts.f x3 ((rd_T35 x3 x5).f0.f0) ((rd_T35 x3 x5).f0.f1) ((rd_T35 x3 x5).f1.f0) ((rd_T35 x3 x5).f1.f1)).bind fun t269 => (if t269.length < 8796093022208 then (mapmakerref20_Split.l1 k x3 x4 x5 (t269 ++ [(⟨(rd_T35 x3 x5).f1.f0, (rd_T35 x3 x5).f1.f1⟩ : S33)]) 0 ((rd_T35 x3 x5).f0.f0) ((rd_T35 x3 x5).f0.f1)) else (none))) else (none)) else (some x4)
def mapmakerref20_Split.l1 : Nat → List (S35) → List (S35) → Int → List (S33) → Int → Int → Int → Option ((List (S35)))
 | 0, _, _, _, _, _, _, _ => none
 | k + 1, x3, x4, x5, x6, x8, x278000, x278001 => if x8 < (x6.length : Int) then (if 0 ≤ x8 then ((mapmakerref20_insert.f k x4 x278000 x278001 ((rd_T33 x6 x8).f0) ((rd_T33 x6 x8).f1)).bind fun t279 => (mapmakerref20_Split.l1 k x3 t279 x5 x6 (wrap64 (x8 + 1)) ((rd_T33 x6 x8).f0) ((rd_T33 x6 x8).f1))) else (none)) else (mapmakerref20_Split.l0 k x3 x4 (wrap64 (x5 + 1)))
end
def mapmakerref20_Split.f (k : Nat) (l0 : List (S35)) : Option ((List (S35))) := (mapmakerref20_Sort.f k l0).bind fun t265 => (mapmakerref20_Split.l0 k t265 ([] : List (S35)) 0)
theorem mapmakerref20_Split.mono_l : ∀ k, (∀ y0 y1 y2, LeO (mapmakerref20_Split.l0 k y0 y1 y2) (mapmakerref20_Split.l0 (k + 1) y0 y1 y2)) ∧ (∀ y0 y1 y2 y3 y4 y5 y6, LeO (mapmakerref20_Split.l1 k y0 y1 y2 y3 y4 y5 y6) (mapmakerref20_Split.l1 (k + 1) y0 y1 y2 y3 y4 y5 y6))
 | 0 => ⟨fun _ _ _ r h => by simp [mapmakerref20_Split.l0] at h, fun _ _ _ _ _ _ _ r h => by simp [mapmakerref20_Split.l1] at h⟩
 | k + 1 => by
  obtain ⟨ih0, ih1⟩ := mapmakerref20_Split.mono_l k
  refine ⟨?_, ?_⟩
  ·intro y0 y1 y2
   unfold mapmakerref20_Split.l0
   repeat' first
   | (with_reducible exact ih0 _ _ _)
   | (with_reducible exact ih1 _ _ _ _ _ _ _)
   | (with_reducible exact mapmakerref20_Sort.mono _ _)
   | (with_reducible exact mapmakerref20_insert.mono _ _ _ _ _ _)
   | (with_reducible exact LeO.refl _)
   | (with_reducible exact LeO.none _)
   | (with_reducible refine LeO.ite ?_ ?_)
   | (with_reducible refine LeO.bind ?_ (fun _ => ?_))
   | exact ih0 _ _ _
   | exact ih1 _ _ _ _ _ _ _
   | exact mapmakerref20_Sort.mono _ _
   | exact mapmakerref20_insert.mono _ _ _ _ _ _
   | exact LeO.none _
   | refine LeO.ite ?_ ?_
   | refine LeO.bind ?_ (fun _ => ?_)
  ·intro y0 y1 y2 y3 y4 y5 y6
   unfold mapmakerref20_Split.l1
   repeat' first
   | (with_reducible exact ih0 _ _ _)
   | (with_reducible exact ih1 _ _ _ _ _ _ _)
   | (with_reducible exact mapmakerref20_Sort.mono _ _)
   | (with_reducible exact mapmakerref20_insert.mono _ _ _ _ _ _)
   | (with_reducible exact LeO.refl _)
   | (with_reducible exact LeO.none _)
   | (with_reducible refine LeO.ite ?_ ?_)
   | (with_reducible refine LeO.bind ?_ (fun _ => ?_))
   | exact ih0 _ _ _
   | exact ih1 _ _ _ _ _ _ _
   | exact mapmakerref20_Sort.mono _ _
   | exact mapmakerref20_insert.mono _ _ _ _ _ _
   | exact LeO.none _
   | refine LeO.ite ?_ ?_
   | refine LeO.bind ?_ (fun _ => ?_)
theorem mapmakerref20_Split.mono : ∀ a0 k, LeO (mapmakerref20_Split.f k a0) (mapmakerref20_Split.f (k + 1) a0) := by
 intro a0 k
 obtain ⟨ih0, ih1⟩ := mapmakerref20_Split.mono_l k
 unfold mapmakerref20_Split.f
 repeat' first
   | (with_reducible exact ih0 _ _ _)
   | (with_reducible exact ih1 _ _ _ _ _ _ _)
   | (with_reducible exact mapmakerref20_Sort.mono _ _)
   | (with_reducible exact mapmakerref20_insert.mono _ _ _ _ _ _)
   | (with_reducible exact LeO.refl _)
   | (with_reducible exact LeO.none _)
   | (with_reducible refine LeO.ite ?_ ?_)
   | (with_reducible refine LeO.bind ?_ (fun _ => ?_))
   | exact ih0 _ _ _
   | exact ih1 _ _ _ _ _ _ _
   | exact mapmakerref20_Sort.mono _ _
   | exact mapmakerref20_insert.mono _ _ _ _ _ _
   | exact LeO.none _
   | refine LeO.ite ?_ ?_
   | refine LeO.bind ?_ (fun _ => ?_)
def mapmakerref20_Split.T12 : Bool × List (List Nat × List Nat) := (true, [([], []), ([], []), ([], []), ([], []), ([2, 3], [2, 3]), ([4], [4]), ([1, 5], [1, 5]), ([0, 6], [0, 6]), ([7, 7, 0, 1, 2, 3, 4, 5, 6, 7], [0, 7])])
def mapmakerref20_Split.B12 : List Nat := [0, 0, 0, 0, 12, 28, 62, 127, 255]
theorem mapmakerref20_Split.tab12 : rtab .any (opsOf Try.f20 12) = mapmakerref20_Split.T12 := by kernel_rfl
theorem mapmakerref20_Split.bits12 : waitsOk mapmakerref20_Split.T12.2 mapmakerref20_Split.B12 = true := by kernel_rfl
set_option maxHeartbeats 8000000 in
set_option maxRecDepth 100000 in
theorem mapmakerref20_Split.calls (k : Nat) (A0 : Option Addr) (c0 : Nat) (l0 : List (S35)) (r : List (S35)) (w : World) (hr0 : Kd.C k35 w A0 l0.length l0) (hc0 : l0.length ≤ c0) (h : mapmakerref20_Split.f k l0 = some r) :
  Calls Try.prog 20 #[.slice A0 l0.length c0] w fun e w' => ∃ v0_ : Value, e = .returned (v0_) ∧ Kd.R k35 35 w' w.heap.size (fun _ => True) v0_ r ∧ Below w.heap.size w w' := by
 have hu35 := Try.underlying35
 have hu33 := Try.underlying33
 have HR0 := aM hr0
 have HC0 := aM hc0
 clear hr0 hc0
 have HB := aM (Below.refl w.heap.size w)
 have H : ((mapmakerref20_Sort.f k l0).bind fun t265 => (mapmakerref20_Split.l0 k t265 ([] : List (S35)) 0)) = some r := h
 clear h
 replace H := Option.bind_eq_some_iff.mp H
 obtain ⟨t265, A20, H⟩ := H
 try dsimp only at H
 have A2 := aM A20
 clear A20
 have H' := aM H
 clear H
 go_enter Try.func20, Try.ntmps20
 go_wp2_with (first | ((with_reducible refine gate_callee (f := 14) rfl ?_); refine goesL_ (some 10) rfl rfl Try.func14 (by kernel_rfl) rfl #[.slice A0 l0.length c0] rfl (by (try simp only [List.map_toArray, List.map_cons, List.map_nil]); first | done | rfl | (simp only [List.length_drop, List.length_take]; rfl)) ?_; (with_reducible refine (mapmakerref20_Sort.calls k _ _ l0 t265 _ ?side1 ?side2 A2.out).mono ?_); (case side1 => repeat (first | exact HR0.out | (with_reducible refine cA ?_ _) | (with_reducible refine cN ?_ _) | (with_reducible refine cD ?_))); (case side2 => exact HC0.out); rintro e w3 ⟨v266, rfl, ho0, hb⟩; refine ⟨_, rfl, ?_⟩; have HO267 := aM (Kd.R_lower ho0 (below_size (bl))); replace HB := aM (bS (bl) hb); (try clear hb); (try clear hb2); (try clear hk); (try clear hi); (try clear ho0)))
 go_loopg [4, 5] k (fun kq v4 v5 w' => ∃ (x4_1 : List (S35)) (x5_1 : Int), v5 = .int .i64 x5_1 ∧ Aside0 (mapmakerref20_Split.l0 kq t265 x4_1 x5_1 = some r) ∧ Aside0 (kq ≤ k) ∧ Aside0 (Kd.R k35 35 w' w.heap.size (fun k_ => some k_ ≠ (v4 : Value).ownBlock) v266 t265) ∧ Aside0 (Kd.R k35 35 w' w.heap.size (fun k_ => some k_ ≠ (v266 : Value).ownBlock) v4 x4_1) ∧ Aside0 (Below w.heap.size w w'))
 case atStart => exact ⟨(([] : List (S35))), (0), (by first | rfl | (simp; done) | (simp [*]; done)), H', ⟨Nat.le_refl _⟩, ⟨by (with_reducible repeat (first | apply rA | apply rN | apply rD)); exact rM HO267.out (fun _ hk => (by simp [Value.ownBlock]))⟩, ⟨by first | exact Kd.R_nil _ _ _ _ _ | exact Kd.N_nil _ _ _ _ _ | exact Kd.V_nil _ _ _ _ _ | exact Kd.Q_nil _ _ _ _ _ | exact Kd.S_nil _ _ _ _ _⟩, ⟨bl⟩⟩
 case round =>
  clear H'
  try clear c1
  try clear c2
  try clear p2
  obtain ⟨x4_1, x5_1, rfl, HA, HK1, HO_3, HO_4, HB⟩ := hrel
  cases gk with
  | zero => exact absurd HA.out (by simp [mapmakerref20_Split.l0])
  | succ k1 =>
   have H := HA.out
   clear HA
   simp only [mapmakerref20_Split.l0] at H
   by_cases c4 : x5_1 < (t265.length : Int)
   ·rw [if_pos c4] at H
    have c4b0 : decide (x5_1 < (t265.length : Int)) = true := decide_eq_true c4
    clear c4
    by_cases c5 : 0 ≤ x5_1
    ·rw [if_pos c5] at H
     have c5b0 : decide (0 ≤ x5_1) = true := decide_eq_true c5
     clear c5
     replace H := Option.bind_eq_some_iff.mp H
     obtain ⟨t269, A60, H⟩ := H
     try dsimp only at H
     have A6 := aM A60
     clear A60
     by_cases c7 : t269.length < 8796093022208
     ·rw [if_pos c7] at H
      have LMc7 := aM c7
      clear c7
      obtain ⟨y273, hy273⟩ : ∃ y_ : List (S33), y_ = (t269 ++ [(⟨(rd_T35 t265 x5_1).f1.f0, (rd_T35 t265 x5_1).f1.f1⟩ : S33)]) := ⟨_, rfl⟩
      replace H : (mapmakerref20_Split.l1 k1 t265 x4_1 x5_1 y273 0 ((rd_T35 t265 x5_1).f0.f0) ((rd_T35 t265 x5_1).f0.f1)) = some r := by first | (rw [hy273]; with_reducible exact H) | (have H2_ := (Option.bind_some _ _).symm.trans H; rw [hy273]; with_reducible exact H2_) | (have H2_ := (Option.bind_some _ _).symm.trans H; with_reducible exact H2_) | with_reducible exact H | (rw [hy273]; exact H) | exact H
      have Ny273 := aM hy273
      clear hy273
      have H' := aM H
      clear H
      obtain ⟨Ao8, co8, eo8⟩ := Kd.R_slice HO_3.out
      subst eo8
      have p268 : 0 ≤ (x5_1 : Int) := of_decide_eq_true (by first | (with_reducible assumption) | assumption)
      have q268 : x5_1 < (t265.length : Int) := of_decide_eq_true (by first | (with_reducible assumption) | assumption)
      obtain ⟨ad268, e268, hx268_0, hx268_1, hx268_2, hx268_3⟩ := at_T35 (rR HO_3.out).2.2 x5_1 p268 q268
      cases e268
      replace p268 := eq_true p268
      replace q268 := eq_true q268
      go_wp2_with (first | ((with_reducible refine gate_callee (f := 44) rfl ?_); refine goesL_ (some 22) rfl rfl Try.func44 (by kernel_rfl) rfl #[.slice (some ad268) t265.length co8, .agg #[.int .i64 ((rd_T35 t265 x5_1).f0.f0), .int .i64 ((rd_T35 t265 x5_1).f0.f1), .int .i64 ((rd_T35 t265 x5_1).f1.f0), .int .i64 ((rd_T35 t265 x5_1).f1.f1)]] rfl (by (try simp only [List.map_toArray, List.map_cons, List.map_nil]); first | done | rfl | (simp only [List.length_drop, List.length_take]; rfl)) ?_; (with_reducible refine (mapmakerref20_cuts.calls _ _ t265 ((rd_T35 t265 x5_1).f0.f0) ((rd_T35 t265 x5_1).f0.f1) ((rd_T35 t265 x5_1).f1.f0) ((rd_T35 t265 x5_1).f1.f1) t269 _ ?side1 ?side2 A6.out).mono ?_); (case side1 => repeat (first | exact (rR HO_3.out).2.2 | (with_reducible refine cA ?_ _) | (with_reducible refine cN ?_ _) | (with_reducible refine cD ?_))); (case side2 => exact (rR HO_3.out).2.1); rintro e w9 ⟨v270, rfl, ho0, hb⟩; refine ⟨_, rfl, ?_⟩; replace HO_3 := aM (rB (rl HO_3) hb); replace HO_4 := aM (rB (rl HO_4) hb); have HO271 := aM (Kd.R_lower ho0 (below_size (bl))); replace HB := aM (bS (bl) hb); (try clear hb); (try clear hb2); (try clear hk); (try clear hi); (try clear ho0); have p272 : 0 ≤ (x5_1 : Int) := of_decide_eq_true (by first | (with_reducible assumption) | assumption); have q272 : x5_1 < (t265.length : Int) := of_decide_eq_true (by first | (with_reducible assumption) | assumption); obtain ⟨ad272, e272, hx272_0, hx272_1, hx272_2, hx272_3⟩ := at_T35 (rR HO_3.out).2.2 x5_1 p272 q272; obtain rfl : ad268 = ad272 := (by injection e272); replace p272 := eq_true p272; replace q272 := eq_true q272) | ((with_reducible refine gate_builtin (b := .append) (xs := #[.tmp 23, .tmp 29]) rfl ?_); at_builtin; refine Kd.R_append k33 (w0 := w) w.heap.size rfl (.tmp 23) (.tmp 29) 22 33 (.agg #[(.int .i64 0), (.int .i64 0)]) 16 rfl Try.underlying22 info33 rfl (by decide) (by omega) v270 t269 (⟨(rd_T35 t265 x5_1).f1.f0, (rd_T35 t265 x5_1).f1.f1⟩ : S33) [.int .i64 ((rd_T35 t265 x5_1).f1.f0), .int .i64 ((rd_T35 t265 x5_1).f1.f1)] (fun _ => True) (fun _ => False) rfl rfl ?aP (fun _ hk => hk.elim) ?aF ?aO ?aB ?aS ?aL ?_; (case aP => exact k33_mkM _ _ _ (⟨(rd_T35 t265 x5_1).f1.f0, (rd_T35 t265 x5_1).f1.f1⟩ : S33)); (case aB => exact (bl)); (case aF => exact (fun _ _ => trivial)); (case aO => exact (rl HO271)); (case aS => exact (below_size (bl))); (case aL => have := LMc7.out; omega); intro v274 w10 ho hb hg hat; rw [← Ny273.out] at ho; have n0_ := aM (Kd.R_over' (rl HO_3) (Kd.R_typed (rl HO271)) (by decide) hg); have n1_ := aM (Kd.R_over' (rl HO_4) (Kd.R_typed (rl HO271)) (by decide) hg); have n2_ := aM (hb); have n3_ := aM (ho); clear HO_3 HO_4 HB HO271; have HO_3 := n0_; have HO_4 := n1_; have HB := n2_; have HO275 := n3_; clear n0_ n1_ n2_ n3_ ho hb hg hat; have p276 : 0 ≤ (x5_1 : Int) := of_decide_eq_true (by first | (with_reducible assumption) | assumption); have q276 : x5_1 < (t265.length : Int) := of_decide_eq_true (by first | (with_reducible assumption) | assumption); obtain ⟨ad276, e276, hx276_0, hx276_1, hx276_2, hx276_3⟩ := at_T35 (rR HO_3.out).2.2 x5_1 p276 q276; obtain rfl : ad268 = ad276 := (by injection e276); replace p276 := eq_true p276; replace q276 := eq_true q276) | ((with_reducible refine gate_dst (N := 7) rfl ?_); refine box_event ?hg (N := 7) ?hd (cs := #[.int .i64 0, .int .i64 0]) (t := 33) ?hr ?_; (case hd => rfl); (case hg => rfl); (case hr => first | (go_simp; done) | (go_simp; rfl)); intro gb277 hg w11 hbox hb; have n0_ := aM (rB (rl HO_3) hb); have n1_ := aM (rB (rl HO_4) hb); have n2_ := aM (rB (rL (rl HO275) gb277 (Nat.le_of_eq hg.symm)) hb); have n3_ := aM (bS (bl) hb); have n4_ := aM (hbox); have n5_ := aM ((by rw [hg]; exact (below_size (bl)) : w.heap.size ≤ gb277)); have n6_ := aM ((by rw [hg]; exact (below_size (bl)) : w.heap.size ≤ gb277)); clear HO_3 HO_4 HO275 HB; have HO_3 := n0_; have HO_4 := n1_; have HO275 := n2_; have HB := n3_; have BK277 := n4_; have GW277 := n5_; have GE277 := n6_; clear n0_ n1_ n2_ n3_ n4_ n5_ n6_ hb hbox hg; have hcz12_0 : w11.cell? ⟨gb277, 0, none⟩ = some (.int .i64 0) := (kC BK277.out 0).trans rfl; have hcz12_1 : w11.cell? ⟨gb277, 1, none⟩ = some (.int .i64 0) := (kC BK277.out 1).trans rfl; have hfz12_0 := kF BK277.out 0; have hfz12_1 := kF BK277.out 1))
      go_loopg [4, 8] k1 (fun kq v4 v8 w' => ∃ (x4_2 : List (S35)) (x8_2 : Int) (x278000_2 : Int) (x278001_2 : Int), v8 = .int .i64 x8_2 ∧ Aside0 (mapmakerref20_Split.l1 kq t265 x4_2 x5_1 y273 x8_2 x278000_2 x278001_2 = some r) ∧ Aside0 (kq ≤ k1) ∧ Aside0 (Kd.R k35 35 w' w.heap.size (fun k_ => some k_ ≠ (v4 : Value).ownBlock) (.slice (some ad268) t265.length co8) t265) ∧ Aside0 (Kd.R k35 35 w' w.heap.size (fun k_ => some k_ ≠ ((.slice (some ad268) t265.length co8) : Value).ownBlock) v4 x4_2) ∧ Aside0 (Kd.R k33 33 w' w.heap.size (fun k_ => k_ ≠ gb277) v274 y273) ∧ Aside0 (w'.heap[gb277]? = some (.cells #[.int .i64 x278000_2, .int .i64 x278001_2] 33 (0, 0))) ∧ Aside0 (Below w.heap.size w w'))
      case atStart => exact ⟨(x4_1), (0), ((rd_T35 t265 x5_1).f0.f0), ((rd_T35 t265 x5_1).f0.f1), (by first | rfl | (simp; done) | (simp [*]; done)), H', ⟨Nat.le_refl _⟩, ⟨by (with_reducible repeat (first | apply rA | apply rN | apply rD)); exact rM (Kd.R_far (p := ⟨gb277, 1, none⟩) (Kd.R_far (p := ⟨gb277, 0, none⟩) (Kd.R_types HO_3.out BK277.out (by decide)) (fun _ hk => hk.2) (.int .i64 ((rd_T35 t265 x5_1).f0.f0))) (fun _ hk => hk.2) (.int .i64 ((rd_T35 t265 x5_1).f0.f1))) (fun _ hk => hk.1)⟩, ⟨by (with_reducible repeat (first | apply rA | apply rN | apply rD)); exact rM (Kd.R_far (p := ⟨gb277, 1, none⟩) (Kd.R_far (p := ⟨gb277, 0, none⟩) (Kd.R_types HO_4.out BK277.out (by decide)) (fun _ hk => hk.2) (.int .i64 ((rd_T35 t265 x5_1).f0.f0))) (fun _ hk => hk.2) (.int .i64 ((rd_T35 t265 x5_1).f0.f1))) (fun _ hk => hk.1)⟩, ⟨by (with_reducible repeat (first | apply rA | apply rN | apply rD)); exact rM (Kd.R_far (p := ⟨gb277, 1, none⟩) (Kd.R_far (p := ⟨gb277, 0, none⟩) (rM HO275.out (fun k_ hk => (⟨hk, hk.2⟩ : _ ∧ k_ ≠ gb277))) (fun _ hk => hk.2) (.int .i64 ((rd_T35 t265 x5_1).f0.f0))) (fun _ hk => hk.2) (.int .i64 ((rd_T35 t265 x5_1).f0.f1))) (fun _ hk => hk.1.2)⟩, ⟨by (with_reducible repeat (first | refine kN ?_ _ | refine kD ?_ | refine kA ?_ _)); refine kP (cs := #[.int .i64 ((rd_T35 t265 x5_1).f0.f0), .int .i64 0]) ?_ 1 _ rfl; (with_reducible repeat (first | refine kN ?_ _ | refine kD ?_ | refine kA ?_ _)); refine kP (cs := #[.int .i64 0, .int .i64 0]) ?_ 0 _ rfl; (with_reducible repeat (first | refine kN ?_ _ | refine kD ?_ | refine kA ?_ _)); exact BK277.out⟩, ⟨bl⟩⟩
      case round =>
       clear H'
       try clear c1
       try clear c2
       try clear p2
       try clear q2
       try clear hx2
       try clear c4
       try clear c4b0
       try clear c5
       try clear c5b0
       try clear c7
       try clear hcz12_0
       try clear hcz12_1
       try clear hfz12_0
       try clear hfz12_1
       try clear hx268_0
       try clear hx268_1
       try clear hx268_2
       try clear hx268_3
       try clear hx272_0
       try clear hx272_1
       try clear hx272_2
       try clear hx272_3
       try clear hx276_0
       try clear hx276_1
       try clear hx276_2
       try clear hx276_3
       try clear p2
       try clear p268
       try clear p272
       try clear p276
       try clear q268
       try clear q272
       try clear q276
       obtain ⟨x4_2, x8_2, x278000_2, x278001_2, rfl, HA, HK2, HO_3, HO_4, HO_6, BK277, HB⟩ := hrel
       cases gk with
       | zero => exact absurd HA.out (by simp [mapmakerref20_Split.l1])
       | succ k2 =>
        have H := HA.out
        clear HA
        simp only [mapmakerref20_Split.l1] at H
        by_cases c13 : x8_2 < (y273.length : Int)
        ·rw [if_pos c13] at H
         have c13b0 : decide (x8_2 < (y273.length : Int)) = true := decide_eq_true c13
         clear c13
         by_cases c14 : 0 ≤ x8_2
         ·rw [if_pos c14] at H
          have c14b0 : decide (0 ≤ x8_2) = true := decide_eq_true c14
          clear c14
          replace H := Option.bind_eq_some_iff.mp H
          obtain ⟨t279, A150, H⟩ := H
          try dsimp only at H
          have A15 := aM A150
          clear A150
          have H' := aM H
          clear H
          obtain ⟨Ao16, co16, eo16⟩ := Kd.R_slice HO_6.out
          subst eo16
          try go_wp2
          replace HO_3 := aM (rD HO_3.out)
          replace HO_4 := aM (rD HO_4.out)
          replace HO_6 := aM (rD HO_6.out)
          replace BK277 := aM (kD BK277.out)
          replace HB := aM (bD HB.out)
          have p278 : 0 ≤ (x8_2 : Int) := of_decide_eq_true (by first | (with_reducible assumption) | assumption)
          have q278 : x8_2 < (y273.length : Int) := of_decide_eq_true (by first | (with_reducible assumption) | assumption)
          obtain ⟨ad278, e278, hx278_0, hx278_1⟩ := at_T33 (rR HO_6.out).2.2 x8_2 p278 q278
          cases e278
          replace p278 := eq_true p278
          replace q278 := eq_true q278
          obtain ⟨Ao18, co18, eo18⟩ := Kd.R_slice HO_4.out
          (first | subst eo18 | (injection eo18 with f1_ f2_ f3_; have f4_ := f1_.symm; have f5_ := f3_.symm; clear f1_ f2_ f3_; subst f4_; subst f5_))
          refine start_ (n := 9) (S := fun w' => w'.cell? ⟨gb277, 0, none⟩ = some (.int .i64 x278000_2) ∧ w'.cell? ⟨gb277, 1, none⟩ = some (.int .i64 x278001_2) ∧ w'.cell? (ad278.add ((x8_2).toNat * 2)) = some (.int .i64 ((rd_T33 y273 x8_2).f0)) ∧ w'.cell? ⟨(ad278.add ((x8_2).toNat * 2)).block, (ad278.add ((x8_2).toNat * 2)).off + 1, none⟩ = some (.int .i64 ((rd_T33 y273 x8_2).f1))) (ds := []) #[false, false, false, false, false, false, false, false, false] (by kernel_rfl) rfl rfl ⟨(kC BK277.out 0).trans rfl, (kC BK277.out 1).trans rfl, hx278_0, hx278_1⟩ (fun hHeld => ?_); refine with_tabW mapmakerref20_Split.tab12 mapmakerref20_Split.bits12 (fun HT_ HW_ => ?_)
          generalize wr.drew = w17 at HO_3 HO_4 HO_6 BK277 HB hx278_0 hx278_1 hHeld ⊢
          refine pure_ (i := 0) (N := some 42) (v := ?_) (a' := ?_) (ba 9 1) rfl rfl (any_of HT_.out (by kernel_rfl)) (fun _ _ _ h => h) (Or.inl ⟨by rfl, ?_⟩) ?_ ?_
          rotate_left
          ·intro w'
           go_simp
           with_reducible rfl
          rotate_left
          ·simp only [Act.put, sA, sB, sC, i64_w, i32_w]
           rfl
          refine pure_ (i := 2) (N := some 44) (v := ?_) (a' := ?_) (ba 9 5) rfl rfl (any_of HT_.out (by kernel_rfl)) (fun _ _ _ h => h) (Or.inl ⟨by rfl, ?_⟩) ?_ ?_
          rotate_left
          ·intro w'
           go_simp
           with_reducible rfl
          rotate_left
          ·simp only [Act.put, sA, sB, sC, i64_w, i32_w]
           rfl
          refine pure_ (i := 3) (N := some 45) (v := ?_) (a' := ?_) (ba 9 13) rfl rfl (any_of HT_.out (by kernel_rfl)) (fun _ _ _ h => h) (Or.inl ⟨by rfl, ?_⟩) ?_ ?_
          rotate_left
          ·intro w'
           go_simp
           with_reducible rfl
          rotate_left
          ·simp only [Act.put, sA, sB, sC, i64_w, i32_w]
           rfl
          refine pure_ (i := 4) (N := some 46) (v := ?_) (a' := ?_) (ba 9 29) rfl rfl (any_of HT_.out (by kernel_rfl)) (fun _ _ _ h => h) (Or.inl ⟨by rfl, ?_⟩) ?_ ?_
          rotate_left
          ·intro w'
           go_simp
           with_reducible rfl
          rotate_left
          ·simp only [Act.put, sA, sB, sC, i64_w, i32_w]
           rfl
          refine take_ (i := 1) (N := some 43) (v := ?_) (a' := ?_) (ba 9 31) rfl rfl (take_ofW HT_.out HW_.out (by kernel_rfl)) (fun _ _ _ h => h) (Or.inl ⟨by rfl, ?_⟩) hHeld ?_ ?_
          rotate_left
          ·rintro w' ⟨s0, s1, s2, s3⟩
           go_simp
           with_reducible rfl
          rotate_left
          ·simp only [Act.put, sA, sB, sC, i64_w, i32_w]
           rfl
          refine take_ (i := 5) (N := some 47) (v := ?_) (a' := ?_) (ba 9 63) rfl rfl (take_ofW HT_.out HW_.out (by kernel_rfl)) (fun _ _ _ h => h) (Or.inl ⟨by rfl, ?_⟩) hHeld ?_ ?_
          rotate_left
          ·rintro w' ⟨s0, s1, s2, s3⟩
           go_simp
           with_reducible rfl
          rotate_left
          ·simp only [Act.put, sA, sB, sC, i64_w, i32_w]
           rfl
          refine pure_ (i := 6) (N := some 48) (v := ?_) (a' := ?_) (ba 9 127) rfl rfl (any_of HT_.out (by kernel_rfl)) (fun _ _ _ h => h) (Or.inl ⟨by rfl, ?_⟩) ?_ ?_
          rotate_left
          ·intro w'
           go_simp
           with_reducible rfl
          rotate_left
          ·simp only [Act.put, sA, sB, sC, i64_w, i32_w]
           rfl
          refine one_ (i := 7) (N := some 49) (ba 9 255) rfl rfl (one_of HT_.out (by kernel_rfl)) (by decide) (fun K hK => ?_)
          refine goes_ Try.func34 (by kernel_rfl) rfl #[.slice Ao18 x4_2.length co18, .agg #[.int .i64 x278000_2, .int .i64 x278001_2, .int .i64 ((rd_T33 y273 x8_2).f0), .int .i64 ((rd_T33 y273 x8_2).f1)]] (by rfl) rfl rfl (by (try simp only [List.map_toArray, List.map_cons, List.map_nil]); first | done | rfl | (simp only [List.length_drop, List.length_take]; rfl)) ?_
          with_reducible refine (mapmakerref20_insert.calls k2 _ _ x4_2 x278000_2 x278001_2 ((rd_T33 y273 x8_2).f0) ((rd_T33 y273 x8_2).f1) t279 _ ?side1 ?side2 A15.out).mono ?_
          (case side1 => repeat (first | exact (rR HO_4.out).2.2 | (with_reducible refine cA ?_ _) | (with_reducible refine cN ?_ _) | (with_reducible refine cD ?_)))
          (case side2 => exact (rR HO_4.out).2.1)
          rintro e w19 ⟨v280, rfl, ho0, hb⟩
          have HS2_ := (hb.cell (World.block_lt_of_cell? _ _ (hHeld.2.2.1))).trans (hHeld.2.2.1)
          have HS3_ := (hb.cell (World.block_lt_of_cell? _ _ (hHeld.2.2.2))).trans (hHeld.2.2.2)
          refine ⟨_, rfl, ?_⟩
          replace HO_6 := aM (rB (rl HO_6) hb)
          have HO281 := aM (Kd.R_lower (Kd.R_new' (Kd.R_new' ho0 (Kd.R_lt (rl HO_3))) (Kd.R_lt (rl HO_4))) (below_size (bl)))
          replace HO_3 := aM (rE (rl HO_3) (Kd.R_base ho0) hb)
          replace HO_4 := aM (rE (rl HO_4) (Kd.R_base ho0) hb)
          replace BK277 := aM (kB (g := gb277) (o := .cells #[.int .i64 x278000_2, .int .i64 x278001_2] 33 (0, 0)) (kl BK277) hb)
          replace HB := aM (bS (bl) hb)
          (try clear hb)
          (try clear hb2)
          (try clear hk)
          (try clear hi)
          (try clear ho0)
          refine hK.out _ _ ⟨(kC BK277.out 0).trans rfl, (kC BK277.out 1).trans rfl, HS2_, HS3_⟩ (fun hHeld => ?_)
          clear hK K
          refine norm_ (a' := ?_) ?_ ?_
          rotate_left
          ·show Act.put _ (some 49) _ = _
           simp only [Act.put, sA, sB, sC, i64_w, i32_w]
           rfl
          refine pure_ (i := 8) (N := some 4) (v := ?_) (a' := ?_) (ba 9 511) rfl rfl (any_of HT_.out (by kernel_rfl)) (fun _ _ _ h => h) (Or.inl ⟨by rfl, ?_⟩) ?_ ?_
          rotate_left
          ·intro w'
           go_simp
           with_reducible rfl
          rotate_left
          ·simp only [Act.put, sA, sB, sC, i64_w, i32_w]
           rfl
          refine done_ (done_of HT_.out (by kernel_rfl)) ?_
          have p282 : 0 ≤ (x8_2 : Int) := of_decide_eq_true (by first | (with_reducible assumption) | assumption)
          have q282 : x8_2 < (y273.length : Int) := of_decide_eq_true (by first | (with_reducible assumption) | assumption)
          obtain ⟨ad282, e282, hx282_0, hx282_1⟩ := at_T33 (rR HO_6.out).2.2 x8_2 p282 q282
          obtain rfl : ad278 = ad282 := (by injection e282)
          replace p282 := eq_true p282
          replace q282 := eq_true q282
          have hcz20_0 : w19.cell? ⟨gb277, 0, none⟩ = some (.int .i64 x278000_2) := (kC BK277.out 0).trans rfl
          have hcz20_1 : w19.cell? ⟨gb277, 1, none⟩ = some (.int .i64 x278001_2) := (kC BK277.out 1).trans rfl
          have hfz20_0 := kF BK277.out 0
          have hfz20_1 := kF BK277.out 1
          try go_wp2
          go_roundg k2
          case measure => have := HK1.out; have := HK2.out; omega
          case rel => exact ⟨(t279), (wrap64 (x8_2 + 1)), ((rd_T33 y273 x8_2).f0), ((rd_T33 y273 x8_2).f1), (by first | rfl | (simp; done) | (simp [*]; done)), H', ⟨by have := HK1.out; have := HK2.out; omega⟩, ⟨by (with_reducible repeat (first | apply rA | apply rN | apply rD)); exact rM (Kd.R_far (p := ⟨gb277, 1, none⟩) (Kd.R_far (p := ⟨gb277, 0, none⟩) (Kd.R_types HO_3.out BK277.out (by decide)) (fun _ hk => hk.2) (.int .i64 ((rd_T33 y273 x8_2).f0))) (fun _ hk => hk.2) (.int .i64 ((rd_T33 y273 x8_2).f1))) (fun _ hk => hk.1.2)⟩, ⟨by (with_reducible repeat (first | apply rA | apply rN | apply rD)); exact rM (Kd.R_far (p := ⟨gb277, 1, none⟩) (Kd.R_far (p := ⟨gb277, 0, none⟩) (Kd.R_types HO281.out BK277.out (by decide)) (fun _ hk => hk.2) (.int .i64 ((rd_T33 y273 x8_2).f0))) (fun _ hk => hk.2) (.int .i64 ((rd_T33 y273 x8_2).f1))) (fun _ hk => hk.1.1.2)⟩, ⟨by (with_reducible repeat (first | apply rA | apply rN | apply rD)); exact rM (Kd.R_far (p := ⟨gb277, 1, none⟩) (Kd.R_far (p := ⟨gb277, 0, none⟩) (rM HO_6.out (fun k_ hk => (⟨hk, hk⟩ : _ ∧ k_ ≠ gb277))) (fun _ hk => hk.2) (.int .i64 ((rd_T33 y273 x8_2).f0))) (fun _ hk => hk.2) (.int .i64 ((rd_T33 y273 x8_2).f1))) (fun _ hk => hk.1)⟩, ⟨by (with_reducible repeat (first | refine kN ?_ _ | refine kD ?_ | refine kA ?_ _)); refine kP (cs := #[.int .i64 ((rd_T33 y273 x8_2).f0), .int .i64 x278001_2]) ?_ 1 _ rfl; (with_reducible repeat (first | refine kN ?_ _ | refine kD ?_ | refine kA ?_ _)); refine kP (cs := #[.int .i64 x278000_2, .int .i64 x278001_2]) ?_ 0 _ rfl; (with_reducible repeat (first | refine kN ?_ _ | refine kD ?_ | refine kA ?_ _)); exact BK277.out⟩, ⟨bl⟩⟩
         ·rw [if_neg c14] at H
          exact absurd H (by simp)
        ·rw [if_neg c13] at H
         have c13b0 : decide (x8_2 < (y273.length : Int)) = false := decide_eq_false c13
         clear c13
         have H' := aM H
         clear H
         obtain ⟨Ao21, co21, eo21⟩ := Kd.R_slice HO_6.out
         subst eo21
         go_wp2
         go_roundg k2
         case measure => have := HK1.out; have := HK2.out; omega
         case rel => exact ⟨(x4_2), (wrap64 (x5_1 + 1)), (by first | rfl | (simp; done) | (simp [*]; done)), H', ⟨by have := HK1.out; have := HK2.out; omega⟩, ⟨by (with_reducible repeat (first | apply rA | apply rN | apply rD)); exact HO_3.out⟩, ⟨by (with_reducible repeat (first | apply rA | apply rN | apply rD)); exact HO_4.out⟩, ⟨bl⟩⟩
     ·rw [if_neg c7] at H
      exact absurd H (by simp)
    ·rw [if_neg c5] at H
     exact absurd H (by simp)
   ·rw [if_neg c4] at H
    have c4b0 : decide (x5_1 < (t265.length : Int)) = false := decide_eq_false c4
    clear c4
    obtain rfl := Option.some.inj H
    obtain ⟨Ao22, co22, eo22⟩ := Kd.R_slice HO_3.out
    subst eo22
    go_wp2
    go_ret
    exact ⟨_, by first | rfl | (simp [errW_none, errW_some] <;> rfl) | (simp [*, errW_none, errW_some] <;> rfl), by (with_reducible repeat (first | apply rA | apply rN | apply rD)); exact rM HO_4.out (fun _ hk => trivial), bl⟩
end Go.Proofs.Ytmejeiddlhjjmaa.PNodingSplits
