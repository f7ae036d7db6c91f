-- out of a driver of this session's prover over the kit's print: Lean checks it
import Derived.Test.YtmejeiddlhjjmaaPNodingCleanx0
import Derived.Test.YtmejeiddlhjjmaaPNodingCleanx2
import Derived.Test.YtmejeiddlhjjmaaPNodingCleanx4
import Derived.Test.YtmejeiddlhjjmaaPNodingCleanx6
import Derived.Test.YtmejeiddlhjjmaaPNodingCleanx8
namespace Go.Proofs.Ytmejeiddlhjjmaa.PNodingClean
open Go.Proofs.YtmejeiddlhjjmaaG Go.Shelf Go.Lib
open Go.RowKit Go.Proofs.YtmejeiddlhjjmaaW.PrintWords Go.Proofs.YtmejeiddlhjjmaaW.PrintLast Go.Proofs.YtmejeiddlhjjmaaW.PrintMore
attribute [local go_sem] max2_int min2_int max_two min_two max_three min_three max_four min_four   -- for this text's walks alone
set_option linter.unusedVariables false
set_option linter.unusedSimpArgs false
attribute [local go_sem high] eqA35
def noding_Crossings.l1 (k : Nat) (s : S35) : List S35 → List S36 → Option (List S36)
 | [], acc => some acc
 | t :: ts, acc => (seg_Relate.f k s.f0.f0 s.f0.f1 s.f1.f0 s.f1.f1 t.f0.f0 t.f0.f1 t.f1.f0 t.f1.f1).bind fun q => if q = 2 ∨ q = 3 then (if acc.length < 1000000000 then noding_Crossings.l1 k s ts (acc ++ [⟨s, t⟩]) else none) else noding_Crossings.l1 k s ts acc
def noding_Crossings.l0 (k : Nat) : List S35 → List S36 → Option (List S36)
 | [], acc => some acc
 | s :: ss, acc => (noding_Crossings.l1 k s ss acc).bind fun acc' => noding_Crossings.l0 k ss acc'
def noding_Crossings.f (k : Nat) (l0 : List (S35)) : Option (List (S36)) := (noding_Unique.f k l0).bind fun u => noding_Crossings.l0 k u []
theorem noding_Crossings.l1mono (k : Nat) (s : S35) : ∀ (ts : List S35) (acc : List S36), LeO (noding_Crossings.l1 k s ts acc) (noding_Crossings.l1 (k + 1) s ts acc)
 | [], acc => LeO.refl _
 | t :: ts, acc => by
  unfold noding_Crossings.l1
  refine LeO.bind (seg_Relate.mono _ _ _ _ _ _ _ _ _) (fun q => ?_)
  refine LeO.ite (LeO.ite (noding_Crossings.l1mono k s ts _) (LeO.refl _)) (noding_Crossings.l1mono k s ts _)
theorem noding_Crossings.l0mono (k : Nat) : ∀ (ts : List S35) (acc : List S36), LeO (noding_Crossings.l0 k ts acc) (noding_Crossings.l0 (k + 1) ts acc)
 | [], acc => LeO.refl _
 | t :: ts, acc => by
  unfold noding_Crossings.l0
  exact LeO.bind (noding_Crossings.l1mono k t ts acc) (fun _ => noding_Crossings.l0mono k ts _)
theorem noding_Crossings.mono : ∀ (l0 : List (S35)) (k : Nat), LeO (noding_Crossings.f k l0) (noding_Crossings.f (k + 1) l0) := by
 intro l0 k
 unfold noding_Crossings.f
 exact LeO.bind (noding_Unique.mono _ _) (fun _ => noding_Crossings.l0mono k _ _)
set_option maxHeartbeats 8000000 in
set_option maxRecDepth 100000 in
theorem noding_Crossings.calls (k : Nat) (A0 : Option Addr) (c0 : Nat) (l0 : List (S35)) (r : List (S36)) (w : World) (hr0 : Kd.C k35 w A0 l0.length l0) (hc0 : l0.length ≤ c0) (h : noding_Crossings.f k l0 = some r) :
  Calls Try.prog 23 #[.slice A0 l0.length c0] w fun e w' => ∃ v0_ : Value, e = .returned (v0_) ∧ Kd.R k36 36 w' w.heap.size (fun _ => True) v0_ r ∧ Below w.heap.size w w' := by
 obtain ⟨u, hu, h⟩ := Option.bind_eq_some_iff.mp (show (noding_Unique.f k l0).bind _ = some r from h)
 have HR := aM hr0
 have Hu := aM hu
 have H0 := aM h
 clear hr0 hu h
 go_enter Try.func23, Try.ntmps23
 go_wp2_with (first | (go_at_call 15; refine (noding_Unique.calls k A0 c0 l0 u _ HR.out hc0 Hu.out).mono ?_; rintro e w1 ⟨v3, rfl, ho1, hb1⟩; obtain ⟨A3, c3, rfl⟩ := Kd.R_slice ho1) | go_in)
 have HB1 := aM hb1
 have HO1 := aM ho1
 have hcap := (rR ho1).2.1
 have hbig : u.length ≤ 9223372036854775807 := (rR ho1).2.2.2.1
 clear hb1 ho1
 go_loopg [14, 4] u.length (fun gg v14 v4 wr => ∃ (i : Nat) (acc : List S36), i ≤ u.length ∧ u.length - i ≤ gg ∧ v14 = .int .i64 i ∧ Aside0 (noding_Crossings.l0 k (u.drop i) acc = some r) ∧ Aside0 (Kd.R k36 36 wr w1.heap.size (fun _ => True) v4 acc) ∧ Aside0 (Below w1.heap.size w1 wr))
 case atStart => exact ⟨0, [], by omega, by omega, rfl, ⟨H0.out⟩, ⟨Kd.R_nil _ _ _ _ _⟩, ⟨Below.refl _ _⟩⟩
 case round =>
  obtain ⟨i, acc, hi, hg, rfl, HA, HO, HB⟩ := hrel
  by_cases hlt : i < u.length
  ·have hltI : (i : Int) < (u.length : Int) := by omega
   obtain ⟨ga, rfl⟩ := R_head HO1.out (by omega)
   obtain ⟨ad, e0, hx0, hx1, hx2, hx3⟩ := at_T35 (Kd.C_below (rR HO1.out).2.2 HB.out) (i : Int) (by omega) (by omega)
   cases e0
   have hy : rd_T35 u (i : Int) = u[i] := by unfold rd_T35; rw [Int.toNat_natCast, List.getD_eq_getElem?_getD, List.getElem?_eq_getElem hlt]; rfl
   have hd := List.drop_eq_getElem_cons hlt
   rw [hy, Int.toNat_natCast, Addr.add_lit, Nat.zero_add] at hx0 hx1 hx2 hx3
   replace hx1 : wr.cell? ⟨ga, i * 4 + 1, none⟩ = some (.int .i64 u[i].f0.f1) := hx1
   replace hx2 : wr.cell? ⟨ga, i * 4 + 2, none⟩ = some (.int .i64 u[i].f1.f0) := hx2
   replace hx3 : wr.cell? ⟨ga, i * 4 + 3, none⟩ = some (.int .i64 u[i].f1.f1) := hx3
   generalize u[i] = s at hx0 hx1 hx2 hx3 hd
   have H := HA.out
   rw [hd] at H
   clear HA hd hy
   have H1 := aM (show (noding_Crossings.l1 k s (u.drop (i + 1)) acc).bind (fun acc' => noding_Crossings.l0 k (u.drop (i + 1)) acc') = some r from H)
   clear H
   have hi1 : (i : Int) + 1 ≤ (u.length : Int) := by omega
   by_cases hc3 : c3 = i + 1
   case pos =>
    have hul : u.length = i + 1 := by omega
    have hdn : u.drop (i + 1) = [] := List.drop_eq_nil_of_le (by omega)
    have H2 := H1.out
    rw [hdn] at H2
    have H3 := aM (show noding_Crossings.l0 k (u.drop (i + 1)) acc = some r from by rw [hdn]; exact H2)
    clear H1 H2 hdn
    go_wp2
    refine wp_loop_rounds 1 ?_
    rw [rounds_succ]
    have hz : ((u.length - (i + 1) : Nat) : Int) = 0 := by omega
    go_wp2
    go_roundg (u.length - (i + 1))
    case measure => omega
    case rel => exact ⟨i + 1, acc, by omega, by omega, by go_num, H3, ⟨rA HO.out _⟩, ⟨HB.out.alloc HB.out.size _⟩⟩
   case neg =>
   have hlt4 := fun k hk => Kd.R_lt HO.out k hk
   have HN4 := aM (show ∀ k, u4.ownBlock = some k → k ≠ wr.heap.size from fun k hk => by have := hlt4 k hk; omega)
   have hsw := HB.out.size
   clear hlt4
   go_wp2
   obtain ⟨sb, hsb⟩ : ∃ sb, sb = wr.heap.size := ⟨_, rfl⟩
   rw [← hsb]
   rw [← hsb] at hsw
   have HSB := aM hsb
   clear hsb
   go_loopg [24, 4] u.length (fun g2 v24 v4 wi => ∃ (j : Nat) (acc : List S36), j ≤ u.length - (i + 1) ∧ u.length - (i + 1) - j ≤ g2 ∧ v24 = .int .i64 j ∧ Aside0 ((noding_Crossings.l1 k s (u.drop (i + 1 + j)) acc).bind (fun acc' => noding_Crossings.l0 k (u.drop (i + 1)) acc') = some r) ∧ Aside0 (Kd.R k36 36 wi w1.heap.size (fun _ => True) v4 acc) ∧ Aside0 (Below w1.heap.size w1 wi) ∧ Aside0 (∀ k, v4.ownBlock = some k → k ≠ sb) ∧ Aside0 (sb < wi.heap.size) ∧ Aside0 (wi.cell? ⟨sb, 0, none⟩ = some (.int .i64 s.f0.f0)) ∧ Aside0 (wi.cell? ⟨sb, 1, none⟩ = some (.int .i64 s.f0.f1)) ∧ Aside0 (wi.cell? ⟨sb, 2, none⟩ = some (.int .i64 s.f1.f0)) ∧ Aside0 (wi.cell? ⟨sb, 3, none⟩ = some (.int .i64 s.f1.f1)))
   case atStart => exact ⟨0, acc, by omega, by omega, rfl, H1, ⟨rA HO.out _⟩, ⟨HB.out.alloc HB.out.size _⟩, ⟨HSB.out ▸ HN4.out⟩, ⟨by rw [HSB.out]; simp⟩, ⟨by rw [HSB.out]; simp⟩, ⟨by rw [HSB.out]; simp⟩, ⟨by rw [HSB.out]; simp⟩, ⟨by rw [HSB.out]; simp⟩⟩
   case round =>
    clear H1 HO HN4
    obtain ⟨j, acc, hj, hg2, rfl, HA, HO, HBi, HN, HSZ, S0, S1, S2, S3⟩ := hrel
    by_cases hjl : j < u.length - (i + 1)
    ·have hjlI : (j : Int) < ((u.length - (i + 1) : Nat) : Int) := by omega
     have hk : i + 1 + j < u.length := by omega
     obtain ⟨ad, e0, hx0, hx1, hx2, hx3⟩ := at_T35 (Kd.C_below (rR HO1.out).2.2 HBi.out) ((i + 1 + j : Nat) : Int) (by omega) (by omega)
     cases e0
     have hy : rd_T35 u ((i + 1 + j : Nat) : Int) = u[i + 1 + j] := by unfold rd_T35; rw [Int.toNat_natCast, List.getD_eq_getElem?_getD, List.getElem?_eq_getElem hk]; rfl
     have hd := List.drop_eq_getElem_cons hk
     have hoff : (i + 1 + j) * 4 = (i + 1) * 4 + j * 4 := by omega
     rw [hy, Int.toNat_natCast, Addr.add_lit, Nat.zero_add, hoff] at hx0 hx1 hx2 hx3
     replace hx1 : wr.cell? ⟨ga, (i + 1) * 4 + j * 4 + 1, none⟩ = some (.int .i64 u[i + 1 + j].f0.f1) := hx1
     replace hx2 : wr.cell? ⟨ga, (i + 1) * 4 + j * 4 + 2, none⟩ = some (.int .i64 u[i + 1 + j].f1.f0) := hx2
     replace hx3 : wr.cell? ⟨ga, (i + 1) * 4 + j * 4 + 3, none⟩ = some (.int .i64 u[i + 1 + j].f1.f1) := hx3
     generalize u[i + 1 + j] = t at hx0 hx1 hx2 hx3 hd
     have H := HA.out
     rw [hd] at H
     clear HA hd hy hoff
     unfold noding_Crossings.l1 at H
     rw [Option.bind_assoc] at H
     obtain ⟨q, hq, H⟩ := Option.bind_eq_some_iff.mp H
     have HQ := aM hq
     clear hq
     have hszi := HSZ.out
     have hne : sb ≠ wr.heap.size := by omega
     have hs0 : (wr.alloc (.cells #[.int .i64 t.f0.f0, .int .i64 t.f0.f1, .int .i64 t.f1.f0, .int .i64 t.f1.f1] 35)).cell? ⟨sb, 0, none⟩ = some (.int .i64 s.f0.f0) := Go.Lib.cell?_alloc_some _ S0.out
     have hs1 : (wr.alloc (.cells #[.int .i64 t.f0.f0, .int .i64 t.f0.f1, .int .i64 t.f1.f0, .int .i64 t.f1.f1] 35)).cell? ⟨sb, 1, none⟩ = some (.int .i64 s.f0.f1) := Go.Lib.cell?_alloc_some _ S1.out
     have hs2 : (wr.alloc (.cells #[.int .i64 t.f0.f0, .int .i64 t.f0.f1, .int .i64 t.f1.f0, .int .i64 t.f1.f1] 35)).cell? ⟨sb, 2, none⟩ = some (.int .i64 s.f1.f0) := Go.Lib.cell?_alloc_some _ S2.out
     have hs3 : (wr.alloc (.cells #[.int .i64 t.f0.f0, .int .i64 t.f0.f1, .int .i64 t.f1.f0, .int .i64 t.f1.f1] 35)).cell? ⟨sb, 3, none⟩ = some (.int .i64 s.f1.f1) := Go.Lib.cell?_alloc_some _ S3.out
     have HCALL := aM (seg_Relate.calls k s.f0.f0 s.f0.f1 s.f1.f0 s.f1.f1 t.f0.f0 t.f0.f1 t.f1.f0 t.f1.f1 q (wr.alloc (.cells #[.int .i64 t.f0.f0, .int .i64 t.f0.f1, .int .i64 t.f1.f0, .int .i64 t.f1.f1] 35)) HQ.out)
     by_cases hq23 : q = 2 ∨ q = 3
     ·rw [if_pos hq23] at H
      have hacc : acc.length < 1000000000 := by
       by_cases ha : acc.length < 1000000000
       ·exact ha
       ·rw [if_neg ha] at H; cases H
      rw [if_pos hacc] at H
      have H' := aM (show (noding_Crossings.l1 k s (u.drop (i + 1 + (j + 1))) (acc ++ [⟨s, t⟩])).bind (fun acc' => noding_Crossings.l0 k (u.drop (i + 1)) acc') = some r from H)
      clear H
      have htail : ∀ (w5 : World), Below (wr.alloc (.cells #[.int .i64 t.f0.f0, .int .i64 t.f0.f1, .int .i64 t.f1.f0, .int .i64 t.f1.f1] 35)).heap.size (wr.alloc (.cells #[.int .i64 t.f0.f0, .int .i64 t.f0.f1, .int .i64 t.f1.f0, .int .i64 t.f1.f1] 35)) w5 → Kd.R k36 36 w5 w1.heap.size (fun _ => True) u4 acc ∧ Below w1.heap.size w1 w5 ∧ sb < w5.heap.size := fun w5 hb5 => ⟨rB (rA HO.out _) hb5, (HBi.out.alloc HBi.out.size _).trans (hb5.mono (by simp; have := HBi.out.size; omega)), by have := hb5.size; simp at this; omega⟩
      have HTL := aM htail
      clear htail
      rcases hq23 with hq2 | hq3
      ·have e2 : (q == 2) = true := by rw [hq2]; rfl
       go_wp2_with (first
        | (go_at_call 46; refine HCALL.out.mono ?_; rintro e w5 ⟨rfl, hb5⟩; have ht0 : w5.cell? ⟨wr.heap.size, 0, none⟩ = some (.int .i64 t.f0.f0) := (hb5.cell (p := ⟨wr.heap.size, 0, none⟩) (by simp)).trans (by simp); have ht1 : w5.cell? ⟨wr.heap.size, 1, none⟩ = some (.int .i64 t.f0.f1) := (hb5.cell (p := ⟨wr.heap.size, 1, none⟩) (by simp)).trans (by simp); have ht2 : w5.cell? ⟨wr.heap.size, 2, none⟩ = some (.int .i64 t.f1.f0) := (hb5.cell (p := ⟨wr.heap.size, 2, none⟩) (by simp)).trans (by simp); have ht3 : w5.cell? ⟨wr.heap.size, 3, none⟩ = some (.int .i64 t.f1.f1) := (hb5.cell (p := ⟨wr.heap.size, 3, none⟩) (by simp)).trans (by simp); have hc0 : w5.cell? ⟨sb, 0, none⟩ = some (.int .i64 s.f0.f0) := (hb5.cell (p := ⟨sb, 0, none⟩) (by simp; omega)).trans hs0; have hc1 : w5.cell? ⟨sb, 1, none⟩ = some (.int .i64 s.f0.f1) := (hb5.cell (p := ⟨sb, 1, none⟩) (by simp; omega)).trans hs1; have hc2 : w5.cell? ⟨sb, 2, none⟩ = some (.int .i64 s.f1.f0) := (hb5.cell (p := ⟨sb, 2, none⟩) (by simp; omega)).trans hs2; have hc3 : w5.cell? ⟨sb, 3, none⟩ = some (.int .i64 s.f1.f1) := (hb5.cell (p := ⟨sb, 3, none⟩) (by simp; omega)).trans hs3; obtain ⟨ho5, hb5', hs5⟩ := HTL.out w5 hb5; have HO5 := aM ho5; have HB5 := aM hb5'; have HS5 := aM hs5; clear ho5 hb5' hs5 hb5)
        | ((with_reducible refine gate_builtin (b := .append) (xs := #[.tmp 37, .tmp 41]) rfl ?_); at_builtin; refine Kd.R_append k36 (w0 := w1) w1.heap.size rfl (.tmp 37) (.tmp 41) 30 36 (.agg #[(.int .i64 0), (.int .i64 0), (.int .i64 0), (.int .i64 0), (.int .i64 0), (.int .i64 0), (.int .i64 0), (.int .i64 0)]) 64 rfl Try.underlying30 info36 rfl (by decide) (by omega) u4 acc ⟨s, t⟩ [.int .i64 s.f0.f0, .int .i64 s.f0.f1, .int .i64 s.f1.f0, .int .i64 s.f1.f1, .int .i64 t.f0.f0, .int .i64 t.f0.f1, .int .i64 t.f1.f0, .int .i64 t.f1.f1] (fun _ => True) (fun _ => False) rfl rfl (k36_mkM _ _ _ (⟨s, t⟩ : S36)) (fun _ hk => hk.elim) (fun _ _ => trivial) HO5.out HB5.out HB5.out.size (by omega) ?_; intro v6 w6 ho6 hb6 hg6 hat6; have HO6 := aM ho6; have HB6 := aM hb6; have HG6 := aM hg6; have HAT6 := aM hat6; clear ho6 hb6 hg6 hat6)
        | go_in)
       have hnb : some sb ≠ u4.ownBlock := fun he => HN.out sb he.symm rfl
       go_roundg (u.length - (i + 1) - (j + 1))
       case measure => omega
       case rel => exact ⟨j + 1, acc ++ [⟨s, t⟩], by omega, by omega, by go_num, H', HO6, HB6, ⟨fun k hk => by rcases HAT6.out with ha | ⟨b, hb, hle⟩ <;> (first | (rw [ha] at hk; exact HN.out k hk) | (rw [hb] at hk; cases hk; have := HS5.out; omega))⟩, ⟨by have := HS5.out; have := HG6.out.size; omega⟩, ⟨HG6.out.cell hc0 hnb⟩, ⟨HG6.out.cell hc1 hnb⟩, ⟨HG6.out.cell hc2 hnb⟩, ⟨HG6.out.cell hc3 hnb⟩⟩
      ·have e2 : (q == 2) = false := by rw [hq3]; rfl
       have e3 : (q == 3) = true := by rw [hq3]; rfl
       go_wp2_with (first
        | (go_at_call 46; refine HCALL.out.mono ?_; rintro e w5 ⟨rfl, hb5⟩; have ht0 : w5.cell? ⟨wr.heap.size, 0, none⟩ = some (.int .i64 t.f0.f0) := (hb5.cell (p := ⟨wr.heap.size, 0, none⟩) (by simp)).trans (by simp); have ht1 : w5.cell? ⟨wr.heap.size, 1, none⟩ = some (.int .i64 t.f0.f1) := (hb5.cell (p := ⟨wr.heap.size, 1, none⟩) (by simp)).trans (by simp); have ht2 : w5.cell? ⟨wr.heap.size, 2, none⟩ = some (.int .i64 t.f1.f0) := (hb5.cell (p := ⟨wr.heap.size, 2, none⟩) (by simp)).trans (by simp); have ht3 : w5.cell? ⟨wr.heap.size, 3, none⟩ = some (.int .i64 t.f1.f1) := (hb5.cell (p := ⟨wr.heap.size, 3, none⟩) (by simp)).trans (by simp); have hc0 : w5.cell? ⟨sb, 0, none⟩ = some (.int .i64 s.f0.f0) := (hb5.cell (p := ⟨sb, 0, none⟩) (by simp; omega)).trans hs0; have hc1 : w5.cell? ⟨sb, 1, none⟩ = some (.int .i64 s.f0.f1) := (hb5.cell (p := ⟨sb, 1, none⟩) (by simp; omega)).trans hs1; have hc2 : w5.cell? ⟨sb, 2, none⟩ = some (.int .i64 s.f1.f0) := (hb5.cell (p := ⟨sb, 2, none⟩) (by simp; omega)).trans hs2; have hc3 : w5.cell? ⟨sb, 3, none⟩ = some (.int .i64 s.f1.f1) := (hb5.cell (p := ⟨sb, 3, none⟩) (by simp; omega)).trans hs3; obtain ⟨ho5, hb5', hs5⟩ := HTL.out w5 hb5; have HO5 := aM ho5; have HB5 := aM hb5'; have HS5 := aM hs5; clear ho5 hb5' hs5 hb5)
        | ((with_reducible refine gate_builtin (b := .append) (xs := #[.tmp 37, .tmp 41]) rfl ?_); at_builtin; refine Kd.R_append k36 (w0 := w1) w1.heap.size rfl (.tmp 37) (.tmp 41) 30 36 (.agg #[(.int .i64 0), (.int .i64 0), (.int .i64 0), (.int .i64 0), (.int .i64 0), (.int .i64 0), (.int .i64 0), (.int .i64 0)]) 64 rfl Try.underlying30 info36 rfl (by decide) (by omega) u4 acc ⟨s, t⟩ [.int .i64 s.f0.f0, .int .i64 s.f0.f1, .int .i64 s.f1.f0, .int .i64 s.f1.f1, .int .i64 t.f0.f0, .int .i64 t.f0.f1, .int .i64 t.f1.f0, .int .i64 t.f1.f1] (fun _ => True) (fun _ => False) rfl rfl (k36_mkM _ _ _ (⟨s, t⟩ : S36)) (fun _ hk => hk.elim) (fun _ _ => trivial) HO5.out HB5.out HB5.out.size (by omega) ?_; intro v6 w6 ho6 hb6 hg6 hat6; have HO6 := aM ho6; have HB6 := aM hb6; have HG6 := aM hg6; have HAT6 := aM hat6; clear ho6 hb6 hg6 hat6)
        | go_in)
       have hnb : some sb ≠ u4.ownBlock := fun he => HN.out sb he.symm rfl
       go_roundg (u.length - (i + 1) - (j + 1))
       case measure => omega
       case rel => exact ⟨j + 1, acc ++ [⟨s, t⟩], by omega, by omega, by go_num, H', HO6, HB6, ⟨fun k hk => by rcases HAT6.out with ha | ⟨b, hb, hle⟩ <;> (first | (rw [ha] at hk; exact HN.out k hk) | (rw [hb] at hk; cases hk; have := HS5.out; omega))⟩, ⟨by have := HS5.out; have := HG6.out.size; omega⟩, ⟨HG6.out.cell hc0 hnb⟩, ⟨HG6.out.cell hc1 hnb⟩, ⟨HG6.out.cell hc2 hnb⟩, ⟨HG6.out.cell hc3 hnb⟩⟩
     ·rw [if_neg hq23] at H
      have H' := aM (show (noding_Crossings.l1 k s (u.drop (i + 1 + (j + 1))) acc).bind (fun acc' => noding_Crossings.l0 k (u.drop (i + 1)) acc') = some r from H)
      clear H
      have e2 : (q == 2) = false := beq_eq_false_iff_ne.mpr (by omega)
      have e3 : (q == 3) = false := beq_eq_false_iff_ne.mpr (by omega)
      go_wp2_with (first | (go_at_call 46; refine HCALL.out.mono ?_; rintro e w5 ⟨rfl, hb5⟩) | go_in)
      have hc0 : w5.cell? ⟨sb, 0, none⟩ = some (.int .i64 s.f0.f0) := (hb5.cell (p := ⟨sb, 0, none⟩) (by simp; omega)).trans hs0
      have hc1 : w5.cell? ⟨sb, 1, none⟩ = some (.int .i64 s.f0.f1) := (hb5.cell (p := ⟨sb, 1, none⟩) (by simp; omega)).trans hs1
      have hc2 : w5.cell? ⟨sb, 2, none⟩ = some (.int .i64 s.f1.f0) := (hb5.cell (p := ⟨sb, 2, none⟩) (by simp; omega)).trans hs2
      have hc3 : w5.cell? ⟨sb, 3, none⟩ = some (.int .i64 s.f1.f1) := (hb5.cell (p := ⟨sb, 3, none⟩) (by simp; omega)).trans hs3
      have HO5 := aM (rB (rA HO.out _) hb5)
      have HB5 := aM ((HBi.out.alloc HBi.out.size _).trans (hb5.mono (by simp; have := HBi.out.size; omega)))
      have HS5 := aM (show sb < w5.heap.size from by have := hb5.size; simp at this; omega)
      go_roundg (u.length - (i + 1) - (j + 1))
      case measure => omega
      case rel => exact ⟨j + 1, acc, by omega, by omega, by go_num, H', HO5, HB5, HN, HS5, ⟨hc0⟩, ⟨hc1⟩, ⟨hc2⟩, ⟨hc3⟩⟩
    ·have hjn : j = u.length - (i + 1) := by omega
     have hdn : u.drop (i + 1 + j) = [] := List.drop_eq_nil_of_le (by omega)
     have H2 := HA.out
     rw [hdn] at H2
     have H3 := aM (show noding_Crossings.l0 k (u.drop (i + 1)) acc = some r from H2)
     clear HA H2 hdn
     have hnI : ¬ ((j : Int) < ((u.length - (i + 1) : Nat) : Int)) := by omega
     go_wp2
     go_roundg (u.length - (i + 1))
     case measure => omega
     case rel => exact ⟨i + 1, acc, by omega, by omega, by go_num, H3, HO, HBi⟩
  ·have hil : i = u.length := by omega
   subst hil
   have H2 := HA.out
   rw [List.drop_length] at H2
   obtain rfl := Option.some.inj (show some acc = some r from H2)
   go_wp2
   go_ret
   exact ⟨_, rfl, Kd.R_lower HO.out HB1.out.size, HB1.out.trans (HB.out.mono HB1.out.size)⟩
def api_Seg_45.l0 : Nat → List (S35) → List (S35) → Int → Int → Option (Bool)
 | 0, _, _, _, _ => none
 | k + 1, x0, x1, x12, x13 => if x13 < x12 then (if 0 ≤ x13 then (if x13 < (x0.length : Int) then (if x13 < (x1.length : Int) then (if ((!(((rd_T35 x0 x13).f0.f0) == ((rd_T35 x1 x13).f0.f0)) || (!(((rd_T35 x0 x13).f0.f1) == ((rd_T35 x1 x13).f0.f1)))) || ((!(((rd_T35 x0 x13).f1.f0) == ((rd_T35 x1 x13).f1.f0)) || (!(((rd_T35 x0 x13).f1.f1) == ((rd_T35 x1 x13).f1.f1)))))) = true then (some false) else (api_Seg_45.l0 k x0 x1 x12 (wrap64 (x13 + 1)))) else (none)) else (none)) else (none)) else (some true)
def api_Seg_45.f (k : Nat) (l0 : List (S35)) (l1 : List (S35)) : Option (Bool) := if (l0.length : Int) = (l1.length : Int) then (api_Seg_45.l0 k l0 l1 (l0.length : Int) 0) else (some false)
theorem api_Seg_45.mono_l : ∀ k, (∀ y0 y1 y2 y3, LeO (api_Seg_45.l0 k y0 y1 y2 y3) (api_Seg_45.l0 (k + 1) y0 y1 y2 y3))
 | 0 => fun _ _ _ _ r h => by simp [api_Seg_45.l0] at h
 | k + 1 => by
  have ih0 := api_Seg_45.mono_l k
  ·intro y0 y1 y2 y3
   unfold api_Seg_45.l0
   repeat' first
   | (with_reducible exact ih0 _ _ _ _)
   | (with_reducible exact LeO.refl _)
   | (with_reducible exact LeO.none _)
   | (with_reducible refine LeO.ite ?_ ?_)
   | (with_reducible refine LeO.bind ?_ (fun _ => ?_))
   | exact ih0 _ _ _ _
   | exact LeO.none _
   | refine LeO.ite ?_ ?_
   | refine LeO.bind ?_ (fun _ => ?_)
theorem api_Seg_45.mono : ∀ a0 a1 k, LeO (api_Seg_45.f k a0 a1) (api_Seg_45.f (k + 1) a0 a1) := by
 intro a0 a1 k
 have ih0 := api_Seg_45.mono_l k
 unfold api_Seg_45.f
 repeat' first
   | (with_reducible exact ih0 _ _ _ _)
   | (with_reducible exact LeO.refl _)
   | (with_reducible exact LeO.none _)
   | (with_reducible refine LeO.ite ?_ ?_)
   | (with_reducible refine LeO.bind ?_ (fun _ => ?_))
   | exact ih0 _ _ _ _
   | exact LeO.none _
   | refine LeO.ite ?_ ?_
   | refine LeO.bind ?_ (fun _ => ?_)
set_option maxHeartbeats 8000000 in
set_option maxRecDepth 100000 in
theorem api_Seg_45.calls (k : Nat) (A0 : Option Addr) (c0 : Nat) (l0 : List (S35)) (A1 : Option Addr) (c1 : Nat) (l1 : List (S35)) (r : Bool) (w : World) (hr0 : Kd.C k35 w A0 l0.length l0) (hc0 : l0.length ≤ c0) (hr1 : Kd.C k35 w A1 l1.length l1) (hc1 : l1.length ≤ c1) (h : api_Seg_45.f k l0 l1 = some r) :
  Calls Try.prog 45 #[.slice A0 l0.length c0, .slice A1 l1.length c1] w fun e w' => e = .returned (.bool r) ∧ Drawn0 w w' := by
 have hu35 := Try.underlying35
 have HR0 := aM hr0
 have HC0 := aM hc0
 clear hr0 hc0
 have HR1 := aM hr1
 have HC1 := aM hc1
 clear hr1 hc1
 have H : (if (l0.length : Int) = (l1.length : Int) then (api_Seg_45.l0 k l0 l1 (l0.length : Int) 0) else (some false)) = some r := h
 clear h
 by_cases c3 : (l0.length : Int) = (l1.length : Int)
 ·rw [if_pos c3] at H
  have c3b0 : ((l0.length : Int) == (l1.length : Int)) = true := beq_iff_eq.mpr c3
  have c3b1 : ((l0.length : Int) != (l1.length : Int)) = false := bne_eq_false_iff_eq.mpr c3
  have c3b2 : (l0.length == l1.length) = true := by first | simpa using c3 | (simp at c3 ⊢; omega)
  clear c3
  have H' := aM H
  clear H
  go_enter Try.func45, Try.ntmps45
  go_wp2
  repeat (go_quiet (fail); try go_wp2)
  go_loopg [13] k (fun kq v13 w' => ∃ (x13_1 : Int), v13 = .int .i64 x13_1 ∧ Aside0 (api_Seg_45.l0 kq l0 l1 (l0.length : Int) x13_1 = some r) ∧ Aside0 (kq ≤ k) ∧ Drawn0 w w')
  case atStart => exact ⟨(0), (by first | rfl | (simp; done) | (simp [*]; done)), H', ⟨Nat.le_refl _⟩, by repeat (first | exact Drawn0.refl _ | apply Drawn0.step)⟩
  case round =>
   clear H'
   try clear c1
   try clear p2
   try clear c3
   try clear c3b0
   try clear c3b1
   try clear c3b2
   obtain ⟨x13_1, rfl, HA, HK1, ⟨m1, rfl⟩⟩ := hrel
   cases gk with
   | zero => exact absurd HA.out (by simp [api_Seg_45.l0])
   | succ k1 =>
    have H := HA.out
    clear HA
    simp only [api_Seg_45.l0] at H
    by_cases c4 : x13_1 < (l0.length : Int)
    ·rw [if_pos c4] at H
     have c4b0 : decide (x13_1 < (l0.length : Int)) = true := decide_eq_true c4
     clear c4
     by_cases c5 : 0 ≤ x13_1
     ·rw [if_pos c5] at H
      have c5b0 : decide (0 ≤ x13_1) = true := decide_eq_true c5
      clear c5
      by_cases c6 : x13_1 < (l0.length : Int)
      ·rw [if_pos c6] at H
       have c6b0 : decide (x13_1 < (l0.length : Int)) = true := decide_eq_true c6
       clear c6
       by_cases c7 : x13_1 < (l1.length : Int)
       ·rw [if_pos c7] at H
        have c7b0 : decide (x13_1 < (l1.length : Int)) = true := decide_eq_true c7
        clear c7
        by_cases c8 : ((!(((rd_T35 l0 x13_1).f0.f0) == ((rd_T35 l1 x13_1).f0.f0)) || (!(((rd_T35 l0 x13_1).f0.f1) == ((rd_T35 l1 x13_1).f0.f1)))) || ((!(((rd_T35 l0 x13_1).f1.f0) == ((rd_T35 l1 x13_1).f1.f0)) || (!(((rd_T35 l0 x13_1).f1.f1) == ((rd_T35 l1 x13_1).f1.f1)))))) = true
        ·rw [if_pos c8] at H
         have c8b0 : ((!(((rd_T35 l0 x13_1).f0.f0) == ((rd_T35 l1 x13_1).f0.f0)) || (!(((rd_T35 l0 x13_1).f0.f1) == ((rd_T35 l1 x13_1).f0.f1)))) || ((!(((rd_T35 l0 x13_1).f1.f0) == ((rd_T35 l1 x13_1).f1.f0)) || (!(((rd_T35 l0 x13_1).f1.f1) == ((rd_T35 l1 x13_1).f1.f1)))))) = true := c8
         clear c8
         obtain rfl := Option.some.inj H
         have p194 : 0 ≤ (x13_1 : Int) := of_decide_eq_true (by first | (with_reducible assumption) | assumption)
         have q194 : x13_1 < (l0.length : Int) := of_decide_eq_true (by first | (with_reducible assumption) | assumption)
         obtain ⟨ad194, e194, hx194_0, hx194_1, hx194_2, hx194_3⟩ := at_T35 HR0.out x13_1 p194 q194
         cases e194
         replace p194 := eq_true p194
         replace q194 := eq_true q194
         have p195 : 0 ≤ (x13_1 : Int) := of_decide_eq_true (by first | (with_reducible assumption) | assumption)
         have q195 : x13_1 < (l1.length : Int) := of_decide_eq_true (by first | (with_reducible assumption) | assumption)
         obtain ⟨ad195, e195, hx195_0, hx195_1, hx195_2, hx195_3⟩ := at_T35 HR1.out x13_1 p195 q195
         cases e195
         replace p195 := eq_true p195
         replace q195 := eq_true q195
         go_wp2
         repeat (go_quiet (fail); try go_wp2)
         go_ret
         exact ⟨by first | rfl | (simp; done) | (simp [*]; done), by repeat (first | exact Drawn0.refl _ | apply Drawn0.step)⟩
        ·rw [if_neg c8] at H
         have c8b0 : ((!(((rd_T35 l0 x13_1).f0.f0) == ((rd_T35 l1 x13_1).f0.f0)) || (!(((rd_T35 l0 x13_1).f0.f1) == ((rd_T35 l1 x13_1).f0.f1)))) || ((!(((rd_T35 l0 x13_1).f1.f0) == ((rd_T35 l1 x13_1).f1.f0)) || (!(((rd_T35 l0 x13_1).f1.f1) == ((rd_T35 l1 x13_1).f1.f1)))))) = false := by simpa using c8
         clear c8
         have H' := aM H
         clear H
         have p194 : 0 ≤ (x13_1 : Int) := of_decide_eq_true (by first | (with_reducible assumption) | assumption)
         have q194 : x13_1 < (l0.length : Int) := of_decide_eq_true (by first | (with_reducible assumption) | assumption)
         obtain ⟨ad194, e194, hx194_0, hx194_1, hx194_2, hx194_3⟩ := at_T35 HR0.out x13_1 p194 q194
         cases e194
         replace p194 := eq_true p194
         replace q194 := eq_true q194
         have p195 : 0 ≤ (x13_1 : Int) := of_decide_eq_true (by first | (with_reducible assumption) | assumption)
         have q195 : x13_1 < (l1.length : Int) := of_decide_eq_true (by first | (with_reducible assumption) | assumption)
         obtain ⟨ad195, e195, hx195_0, hx195_1, hx195_2, hx195_3⟩ := at_T35 HR1.out x13_1 p195 q195
         cases e195
         replace p195 := eq_true p195
         replace q195 := eq_true q195
         go_wp2
         repeat (go_quiet (fail); try go_wp2)
         go_roundg k1
         case measure => have := HK1.out; omega
         case rel => exact ⟨(wrap64 (x13_1 + 1)), (by first | rfl | (simp; done) | (simp [*]; done)), H', ⟨by have := HK1.out; omega⟩, by repeat (first | exact Drawn0.refl _ | apply Drawn0.step)⟩
       ·rw [if_neg c7] at H
        exact absurd H (by simp)
      ·rw [if_neg c6] at H
       exact absurd H (by simp)
     ·rw [if_neg c5] at H
      exact absurd H (by simp)
    ·rw [if_neg c4] at H
     have c4b0 : decide (x13_1 < (l0.length : Int)) = false := decide_eq_false c4
     clear c4
     obtain rfl := Option.some.inj H
     go_wp2
     repeat (go_quiet (fail); try go_wp2)
     go_ret
     exact ⟨by first | rfl | (simp; done) | (simp [*]; done), by repeat (first | exact Drawn0.refl _ | apply Drawn0.step)⟩
 ·rw [if_neg c3] at H
  have c3b0 : ((l0.length : Int) == (l1.length : Int)) = false := beq_eq_false_iff_ne.mpr c3
  have c3b1 : ((l0.length : Int) != (l1.length : Int)) = true := bne_iff_ne.mpr c3
  have c3b2 : (l0.length == l1.length) = false := by first | simpa using c3 | (simp at c3 ⊢; omega)
  obtain rfl := Option.some.inj H
  go_enter Try.func45, Try.ntmps45
  go_wp2
  repeat (go_quiet (fail); try go_wp2)
  go_ret
  exact ⟨by first | rfl | (simp; done) | (simp [*]; done), by repeat (first | exact Drawn0.refl _ | apply Drawn0.step)⟩
def noding_Clean.f (k : Nat) (l0 : List (S35)) : Option (Bool) := (noding_Split.f k l0).bind fun t196 => ((noding_Sort.f k l0).bind fun t199 => ((api_Seg_45.f k t196 t199).bind fun t202 => (if t202 = true then ((noding_Crossings.f k l0).bind fun t203 => (some ((t203.length : Int) == 0))) else (some false))))
theorem noding_Clean.mono : ∀ a0 k, LeO (noding_Clean.f k a0) (noding_Clean.f (k + 1) a0) := by
 intro a0 k
 unfold noding_Clean.f
 repeat' first
   | (with_reducible exact api_Seg_45.mono _ _ _)
   | (with_reducible exact noding_Crossings.mono _ _)
   | (with_reducible exact noding_Sort.mono _ _)
   | (with_reducible exact noding_Split.mono _ _)
   | (with_reducible exact LeO.refl _)
   | (with_reducible exact LeO.none _)
   | (with_reducible refine LeO.ite ?_ ?_)
   | (with_reducible refine LeO.bind ?_ (fun _ => ?_))
   | exact api_Seg_45.mono _ _ _
   | exact noding_Crossings.mono _ _
   | exact noding_Sort.mono _ _
   | exact noding_Split.mono _ _
   | exact LeO.none _
   | refine LeO.ite ?_ ?_
   | refine LeO.bind ?_ (fun _ => ?_)
set_option maxHeartbeats 8000000 in
set_option maxRecDepth 100000 in
theorem noding_Clean.calls (k : Nat) (A0 : Option Addr) (c0 : Nat) (l0 : List (S35)) (r : Bool) (w : World) (hr0 : Kd.C k35 w A0 l0.length l0) (hc0 : l0.length ≤ c0) (h : noding_Clean.f k l0 = some r) :
  Calls Try.prog 21 #[.slice A0 l0.length c0] w fun e w' => e = .returned (.bool r) ∧ Below w.heap.size w w' := by
 have HR0 := aM hr0
 have HC0 := aM hc0
 clear hr0 hc0
 have HB := aM (Below.refl w.heap.size w)
 have H : ((noding_Split.f k l0).bind fun t196 => ((noding_Sort.f k l0).bind fun t199 => ((api_Seg_45.f k t196 t199).bind fun t202 => (if t202 = true then ((noding_Crossings.f k l0).bind fun t203 => (some ((t203.length : Int) == 0))) else (some false))))) = some r := h
 clear h
 replace H := Option.bind_eq_some_iff.mp H
 obtain ⟨t196, A20, H⟩ := H
 try dsimp only at H
 have A2 := aM A20
 clear A20
 replace H := Option.bind_eq_some_iff.mp H
 obtain ⟨t199, A30, H⟩ := H
 try dsimp only at H
 have A3 := aM A30
 clear A30
 replace H := Option.bind_eq_some_iff.mp H
 obtain ⟨t202, A40, H⟩ := H
 try dsimp only at H
 have A4 := aM A40
 clear A40
 by_cases c5 : t202 = true
 ·subst c5
  have H1 : ((noding_Crossings.f k l0).bind fun t203 => (some ((t203.length : Int) == 0))) = some r := by rw [if_pos rfl] at H; exact H
  clear H
  have H := H1
  clear H1
  replace H := Option.bind_eq_some_iff.mp H
  obtain ⟨t203, A60, H⟩ := H
  try dsimp only at H
  have A6 := aM A60
  clear A60
  obtain rfl := Option.some.inj H
  go_enter Try.func21, Try.ntmps21
  go_wp2_with (first | ((with_reducible refine gate_callee (f := 19) rfl ?_); refine goesL_ (some 4) rfl rfl Try.func19 (by kernel_rfl) rfl #[.slice A0 l0.length c0] rfl (by (try simp only [List.map_toArray, List.map_cons, List.map_nil]); first | done | rfl | (simp only [List.length_drop, List.length_take]; rfl)) ?_; (with_reducible refine (noding_Split.calls k _ _ l0 t196 _ ?side1 ?side2 A2.out).mono ?_); (case side1 => repeat (first | exact HR0.out | (with_reducible refine cA ?_ _) | (with_reducible refine cN ?_ _) | (with_reducible refine cD ?_))); (case side2 => exact HC0.out); rintro e w7 ⟨v197, rfl, ho0, hb⟩; refine ⟨_, rfl, ?_⟩; have HO198 := aM (Kd.R_lower ho0 (below_size (bl))); replace HB := aM (bS (bl) hb); (try clear hb); (try clear hb2); (try clear hk); (try clear hi); (try clear ho0)) | ((with_reducible refine gate_callee (f := 13) rfl ?_); refine goesL_ (some 6) rfl rfl Try.func13 (by kernel_rfl) rfl #[.slice A0 l0.length c0] rfl (by (try simp only [List.map_toArray, List.map_cons, List.map_nil]); first | done | rfl | (simp only [List.length_drop, List.length_take]; rfl)) ?_; (with_reducible refine (noding_Sort.calls k _ _ l0 t199 _ ?side1 ?side2 A3.out).mono ?_); (case side1 => repeat (first | exact (Kd.C_below HR0.out HB.out) | (with_reducible refine cA ?_ _) | (with_reducible refine cN ?_ _) | (with_reducible refine cD ?_))); (case side2 => exact HC0.out); rintro e w8 ⟨v200, rfl, ho0, hb⟩; refine ⟨_, rfl, ?_⟩; have HO201 := aM (Kd.R_lower (Kd.R_new' ho0 (Kd.R_lt (rl HO198))) (below_size (bl))); replace HO198 := aM (rE (rl HO198) (Kd.R_base ho0) hb); replace HB := aM (bS (bl) hb); (try clear hb); (try clear hb2); (try clear hk); (try clear hi); (try clear ho0); obtain ⟨Ao9, co9, eo9⟩ := Kd.R_slice HO198.out; subst eo9; obtain ⟨Ao10, co10, eo10⟩ := Kd.R_slice HO201.out; subst eo10) | ((with_reducible refine gate_callee (f := 45) rfl ?_); refine goesL_ (some 7) rfl rfl Try.func45 (by kernel_rfl) rfl #[.slice Ao9 t196.length co9, .slice Ao10 t199.length co10] rfl (by (try simp only [List.map_toArray, List.map_cons, List.map_nil]); first | done | rfl | (simp only [List.length_drop, List.length_take]; rfl)) ?_; (with_reducible refine (api_Seg_45.calls k _ _ t196 _ _ t199 true _ ?side1 ?side2 ?side3 ?side4 A4.out).mono ?_); (case side1 => repeat (first | exact (rR HO198.out).2.2 | (with_reducible refine cA ?_ _) | (with_reducible refine cN ?_ _) | (with_reducible refine cD ?_))); (case side2 => exact (rR HO198.out).2.1); (case side3 => repeat (first | exact (rR HO201.out).2.2 | (with_reducible refine cA ?_ _) | (with_reducible refine cN ?_ _) | (with_reducible refine cD ?_))); (case side4 => exact (rR HO201.out).2.1); rintro e w' ⟨rfl, ⟨nd, rfl⟩⟩; refine ⟨_, rfl, ?_⟩) | (go_at_call 23; (with_reducible refine (noding_Crossings.calls k _ _ l0 t203 _ ?side1 ?side2 A6.out).mono ?_); (case side1 => repeat (first | exact (Kd.C_below HR0.out (bl)) | (with_reducible refine cA ?_ _) | (with_reducible refine cN ?_ _) | (with_reducible refine cD ?_))); (case side2 => exact HC0.out); rintro e w11 ⟨v204, rfl, ho0, hb⟩; replace HO198 := aM (rB (rl HO198) hb); replace HO201 := aM (rB (rl HO201) hb); have HO205 := aM (Kd.R_lower ho0 (below_size (bl))); replace HB := aM (bS (bl) hb); (try clear hb); (try clear hb2); (try clear hk); (try clear hi); (try clear ho0); obtain ⟨Ao12, co12, eo12⟩ := Kd.R_slice HO205.out; subst eo12))
  go_ret
  exact ⟨by first | rfl | (simp [errW_none, errW_some] <;> rfl) | (simp [*, errW_none, errW_some] <;> rfl), bl⟩
 ·replace c5 := Bool.eq_false_iff.mpr c5
  subst c5
  have H1 : (some false) = some r := by rw [if_neg (show ¬ (false = true) by decide)] at H; exact H
  clear H
  have H := H1
  clear H1
  obtain rfl := Option.some.inj H
  go_enter Try.func21, Try.ntmps21
  go_wp2_with (first | ((with_reducible refine gate_callee (f := 19) rfl ?_); refine goesL_ (some 4) rfl rfl Try.func19 (by kernel_rfl) rfl #[.slice A0 l0.length c0] rfl (by (try simp only [List.map_toArray, List.map_cons, List.map_nil]); first | done | rfl | (simp only [List.length_drop, List.length_take]; rfl)) ?_; (with_reducible refine (noding_Split.calls k _ _ l0 t196 _ ?side1 ?side2 A2.out).mono ?_); (case side1 => repeat (first | exact HR0.out | (with_reducible refine cA ?_ _) | (with_reducible refine cN ?_ _) | (with_reducible refine cD ?_))); (case side2 => exact HC0.out); rintro e w13 ⟨v197, rfl, ho0, hb⟩; refine ⟨_, rfl, ?_⟩; have HO198 := aM (Kd.R_lower ho0 (below_size (bl))); replace HB := aM (bS (bl) hb); (try clear hb); (try clear hb2); (try clear hk); (try clear hi); (try clear ho0)) | ((with_reducible refine gate_callee (f := 13) rfl ?_); refine goesL_ (some 6) rfl rfl Try.func13 (by kernel_rfl) rfl #[.slice A0 l0.length c0] rfl (by (try simp only [List.map_toArray, List.map_cons, List.map_nil]); first | done | rfl | (simp only [List.length_drop, List.length_take]; rfl)) ?_; (with_reducible refine (noding_Sort.calls k _ _ l0 t199 _ ?side1 ?side2 A3.out).mono ?_); (case side1 => repeat (first | exact (Kd.C_below HR0.out HB.out) | (with_reducible refine cA ?_ _) | (with_reducible refine cN ?_ _) | (with_reducible refine cD ?_))); (case side2 => exact HC0.out); rintro e w14 ⟨v200, rfl, ho0, hb⟩; refine ⟨_, rfl, ?_⟩; have HO201 := aM (Kd.R_lower (Kd.R_new' ho0 (Kd.R_lt (rl HO198))) (below_size (bl))); replace HO198 := aM (rE (rl HO198) (Kd.R_base ho0) hb); replace HB := aM (bS (bl) hb); (try clear hb); (try clear hb2); (try clear hk); (try clear hi); (try clear ho0); obtain ⟨Ao15, co15, eo15⟩ := Kd.R_slice HO198.out; subst eo15; obtain ⟨Ao16, co16, eo16⟩ := Kd.R_slice HO201.out; subst eo16) | ((with_reducible refine gate_callee (f := 45) rfl ?_); refine goesL_ (some 7) rfl rfl Try.func45 (by kernel_rfl) rfl #[.slice Ao15 t196.length co15, .slice Ao16 t199.length co16] rfl (by (try simp only [List.map_toArray, List.map_cons, List.map_nil]); first | done | rfl | (simp only [List.length_drop, List.length_take]; rfl)) ?_; (with_reducible refine (api_Seg_45.calls k _ _ t196 _ _ t199 false _ ?side1 ?side2 ?side3 ?side4 A4.out).mono ?_); (case side1 => repeat (first | exact (rR HO198.out).2.2 | (with_reducible refine cA ?_ _) | (with_reducible refine cN ?_ _) | (with_reducible refine cD ?_))); (case side2 => exact (rR HO198.out).2.1); (case side3 => repeat (first | exact (rR HO201.out).2.2 | (with_reducible refine cA ?_ _) | (with_reducible refine cN ?_ _) | (with_reducible refine cD ?_))); (case side4 => exact (rR HO201.out).2.1); rintro e w' ⟨rfl, ⟨nd, rfl⟩⟩; refine ⟨_, rfl, ?_⟩))
  go_ret
  exact ⟨by first | rfl | (simp [errW_none, errW_some] <;> rfl) | (simp [*, errW_none, errW_some] <;> rfl), bl⟩
def mapmakerlaw20_seg.f (a0 : Int) (a1 : Int) (a2 : Int) (a3 : Int) : Option (Int × Int × Int × Int) := some (a0, a1, a2, a3)
set_option maxHeartbeats 8000000 in
set_option maxRecDepth 100000 in
theorem mapmakerlaw20_seg.calls (a0 : Int) (a1 : Int) (a2 : Int) (a3 : Int) (r1 : Int) (r2 : Int) (r3 : Int) (r4 : Int) (w : World) (h : mapmakerlaw20_seg.f a0 a1 a2 a3 = some (r1, r2, r3, r4)) :
  Calls Try.prog 28 #[.int .i64 a0, .int .i64 a1, .int .i64 a2, .int .i64 a3] w fun e w' => e = .returned (.agg #[.int .i64 r1, .int .i64 r2, .int .i64 r3, .int .i64 r4]) ∧ Below w.heap.size w w' := by
 have hu35 := Try.underlying35
 have hu33 := Try.underlying33
 have HB := aM (Below.refl w.heap.size w)
 have H : (some (a0, a1, a2, a3)) = some (r1, r2, r3, r4) := h
 clear h
 simp only [Option.some.injEq, Prod.mk.injEq] at H
 obtain ⟨rfl, rfl, rfl, rfl⟩ := H
 go_enter Try.func28, Try.ntmps28
 go_wp2_with (first | ((with_reducible refine gate_dst (N := 8) rfl ?_); refine box_event ?hg (N := 8) ?hd (cs := #[.int .i64 0, .int .i64 0, .int .i64 0, .int .i64 0]) (t := 35) ?hr ?_; (case hd => rfl); (case hg => rfl); (case hr => first | (go_simp; done) | (go_simp; rfl)); intro gb206 hg w5 hbox hb; have n0_ := aM (bS (bl) hb); have n1_ := aM (hbox); have n2_ := aM ((by rw [hg]; exact (below_size (bl)) : w.heap.size ≤ gb206)); have n3_ := aM ((by rw [hg]; exact (below_size (bl)) : w.heap.size ≤ gb206)); clear HB; have HB := n0_; have BK206 := n1_; have GW206 := n2_; have GE206 := n3_; clear n0_ n1_ n2_ n3_ hb hbox hg; have hcz6_0 : w5.cell? ⟨gb206, 0, none⟩ = some (.int .i64 0) := (kC BK206.out 0).trans rfl; have hcz6_1 : w5.cell? ⟨gb206, 1, none⟩ = some (.int .i64 0) := (kC BK206.out 1).trans rfl; have hcz6_2 : w5.cell? ⟨gb206, 2, none⟩ = some (.int .i64 0) := (kC BK206.out 2).trans rfl; have hcz6_3 : w5.cell? ⟨gb206, 3, none⟩ = some (.int .i64 0) := (kC BK206.out 3).trans rfl; have hfz6_0 := kF BK206.out 0; have hfz6_1 := kF BK206.out 1; have hfz6_2 := kF BK206.out 2; have hfz6_3 := kF BK206.out 3))
 refine bodyPost_ret (results_cell_row rfl _ _ gb206 35 #[.int .i64 a0, .int .i64 a1, .int .i64 a2, .int .i64 a3] (0, 0) _ rfl (by (with_reducible repeat (first | refine kN ?_ _ | refine kD ?_ | refine kA ?_ _)); refine kP (cs := #[.int .i64 a0, .int .i64 a1, .int .i64 a2, .int .i64 0]) ?_ 3 _ rfl; (with_reducible repeat (first | refine kN ?_ _ | refine kD ?_ | refine kA ?_ _)); refine kP (cs := #[.int .i64 a0, .int .i64 a1, .int .i64 0, .int .i64 0]) ?_ 2 _ rfl; (with_reducible repeat (first | refine kN ?_ _ | refine kD ?_ | refine kA ?_ _)); refine kP (cs := #[.int .i64 a0, .int .i64 0, .int .i64 0, .int .i64 0]) ?_ 1 _ rfl; (with_reducible repeat (first | refine kN ?_ _ | refine kD ?_ | refine kA ?_ _)); refine kP (cs := #[.int .i64 0, .int .i64 0, .int .i64 0, .int .i64 0]) ?_ 0 _ rfl; (with_reducible repeat (first | refine kN ?_ _ | refine kD ?_ | refine kA ?_ _)); exact BK206.out) Try.underlying35 rfl (by kernel_rfl)) rfl ?_
 exact ⟨by first | rfl | (simp [errW_none, errW_some] <;> rfl) | (simp [*, errW_none, errW_some] <;> rfl), bl⟩
end Go.Proofs.Ytmejeiddlhjjmaa.PNodingClean
