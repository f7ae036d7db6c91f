-- out of a driver of this session's prover over the kit's print: Lean checks it
import Derived.Test.YtijoaohckgbneaaGreatPAllx0
import Derived.Test.YtijoaohckgbneaaGreatPAllx6
import Derived.Test.YtijoaohckgbneaaGreatPAllx9
namespace Go.Proofs.YtijoaohckgbneaaGreat.PAll
open Go.Proofs.YtijoaohckgbneaaGreatG Go.Shelf Go.Lib
open Go.RowKit Go.Proofs.YtijoaohckgbneaaGreatW.PrintWords Go.Proofs.YtijoaohckgbneaaGreatW.PrintLast Go.Proofs.YtijoaohckgbneaaGreatW.PrintMore
attribute [local go_sem] max2_int min2_int max_two min_two max_three min_three max_four min_four   -- for this text's walks alone
set_option linter.unusedVariables false
set_option linter.unusedSimpArgs false
theorem tbKeyed : Go.Maps.Keyed Tryz.prog 3 := Go.Maps.int_keyed Tryz.underlying3
structure Tab (W : World) (b M0 M1 M2 n : Nat) (ok0 ok1 ok2 : Nat → Prop) (l0 : List S37) (l1 : List S40) (l2 : List S43) : Prop where
 h0 : HasMap Tryz.prog k37 (fun x => x.f0) W M0 n ok0 l0
 h1 : HasMap Tryz.prog k40 (fun x => x.f0) W M1 n ok1 l1
 h2 : HasMap Tryz.prog k43 (fun x => x.f0) W M2 n ok2 l2
 b0 : b ≤ M0
 b1 : M0 < M1
 b2 : M1 < M2
 e0 : ∀ k, ok0 k → k < b
 e1 : ∀ k, ok1 k → k < b
 e2 : ∀ k, ok2 k → k < b
section
variable {W W' : World} {b M0 M1 M2 n : Nat} {ok0 ok1 ok2 : Nat → Prop} {l0 : List S37} {l1 : List S40} {l2 : List S43}
theorem Tab.grown (h : Tab W b M0 M1 M2 n ok0 ok1 ok2 l0 l1 l2) {g : Nat} (hg : W.grownBy W' (some g)) (hb : b ≤ g) (g0 : g ≠ M0) (g1 : g ≠ M1) (g2 : g ≠ M2) : Tab W' b M0 M1 M2 n ok0 ok1 ok2 l0 l1 l2 :=
 ⟨h.h0.grown hg (by simp; omega) (fun k hk => by have := h.e0 k hk; simp; omega), h.h1.grown hg (by simp; omega) (fun k hk => by have := h.e1 k hk; simp; omega), h.h2.grown hg (by simp; omega) (fun k hk => by have := h.e2 k hk; simp; omega), h.b0, h.b1, h.b2, h.e0, h.e1, h.e2⟩
theorem Tab.below (h : Tab W b M0 M1 M2 n ok0 ok1 ok2 l0 l1 l2) (hb : Below W.heap.size W W') : Tab W' b M0 M1 M2 n ok0 ok1 ok2 l0 l1 l2 :=
 ⟨h.h0.below hb, h.h1.below hb, h.h2.below hb, h.b0, h.b1, h.b2, h.e0, h.e1, h.e2⟩
theorem Tab.alloc (h : Tab W b M0 M1 M2 n ok0 ok1 ok2 l0 l1 l2) (o : Obj) : Tab (W.alloc o) b M0 M1 M2 n ok0 ok1 ok2 l0 l1 l2 := h.below (bA (Below.refl _ _) o)
theorem Tab.put0 (h : Tab W b M0 M1 M2 n ok0 ok1 ok2 l0 l1 l2) (hn : n < maxLen) {x : S37} {cs : List Value} (hx : (Lit.int .i64 x.f0).wf = true) (hf : Kd.FK k37 W ok0 x cs) :
  ∃ W', (Instr.mapUpdate 70 (.map (some M0)) (.int .i64 x.f0) (.agg cs.toArray)).run Tryz.prog W = .ok () W' ∧ Tab W' b M0 M1 M2 (n + 1) ok0 ok1 ok2 (ins (fun x => x.f0) x l0) l1 l2 ∧ W.grownBy W' (some M0) := by
 obtain ⟨W', hrun, hm, hg⟩ := h.h0.put tbKeyed Tryz.underlying3 Tryz.underlying70 hn hx hf (fun k hk => by have := h.e0 k hk; have := h.b0; omega); exact ⟨W', hrun, ⟨hm, (h.h1.grown hg (by have := h.b1; simp; omega) (fun k hk => by have := h.e1 k hk; have := h.b0; simp; omega)).mono (by omega), (h.h2.grown hg (by have := h.b1; have := h.b2; simp; omega) (fun k hk => by have := h.e2 k hk; have := h.b0; simp; omega)).mono (by omega), h.b0, h.b1, h.b2, h.e0, h.e1, h.e2⟩, hg⟩
theorem Tab.put1 (h : Tab W b M0 M1 M2 n ok0 ok1 ok2 l0 l1 l2) (hn : n < maxLen) {x : S40} {cs : List Value} (hx : (Lit.int .i64 x.f0).wf = true) (hf : Kd.FK k40 W ok1 x cs) :
  ∃ W', (Instr.mapUpdate 71 (.map (some M1)) (.int .i64 x.f0) (.agg cs.toArray)).run Tryz.prog W = .ok () W' ∧ Tab W' b M0 M1 M2 (n + 1) ok0 ok1 ok2 l0 (ins (fun x => x.f0) x l1) l2 ∧ W.grownBy W' (some M1) := by
 obtain ⟨W', hrun, hm, hg⟩ := h.h1.put tbKeyed Tryz.underlying3 Tryz.underlying71 hn hx hf (fun k hk => by have := h.e1 k hk; have := h.b0; have := h.b1; omega); exact ⟨W', hrun, ⟨(h.h0.grown hg (by have := h.b1; simp; omega) (fun k hk => by have := h.e0 k hk; have := h.b0; have := h.b1; simp; omega)).mono (by omega), hm, (h.h2.grown hg (by have := h.b1; have := h.b2; simp; omega) (fun k hk => by have := h.e2 k hk; have := h.b0; have := h.b1; simp; omega)).mono (by omega), h.b0, h.b1, h.b2, h.e0, h.e1, h.e2⟩, hg⟩
theorem Tab.put2 (h : Tab W b M0 M1 M2 n ok0 ok1 ok2 l0 l1 l2) (hn : n < maxLen) {x : S43} {cs : List Value} (hx : (Lit.int .i64 x.f0).wf = true) (hf : Kd.FK k43 W ok2 x cs) :
  ∃ W', (Instr.mapUpdate 72 (.map (some M2)) (.int .i64 x.f0) (.agg cs.toArray)).run Tryz.prog W = .ok () W' ∧ Tab W' b M0 M1 M2 (n + 1) ok0 ok1 ok2 l0 l1 (ins (fun x => x.f0) x l2) ∧ W.grownBy W' (some M2) := by
 obtain ⟨W', hrun, hm, hg⟩ := h.h2.put tbKeyed Tryz.underlying3 Tryz.underlying72 hn hx hf (fun k hk => by have := h.e2 k hk; have := h.b0; have := h.b1; have := h.b2; omega); exact ⟨W', hrun, ⟨(h.h0.grown hg (by have := h.b1; have := h.b2; simp; omega) (fun k hk => by have := h.e0 k hk; have := h.b0; have := h.b1; have := h.b2; simp; omega)).mono (by omega), (h.h1.grown hg (by have := h.b2; simp; omega) (fun k hk => by have := h.e1 k hk; have := h.b0; have := h.b1; have := h.b2; simp; omega)).mono (by omega), hm, h.b0, h.b1, h.b2, h.e0, h.e1, h.e2⟩, hg⟩
theorem Tab.setCell (h : Tab W b M0 M1 M2 n ok0 ok1 ok2 l0 l1 l2) {g : Nat} (hb : b ≤ g) (g0 : g ≠ M0) (g1 : g ≠ M1) (g2 : g ≠ M2) (j : Nat) (u : Value) : Tab (W.setCell ⟨g, j, none⟩ u) b M0 M1 M2 n ok0 ok1 ok2 l0 l1 l2 :=
 h.grown (g := g) ⟨rfl, rfl, rfl, by simp [World.setCell], fun i hi hne => Below.heap_setCell W ⟨g, j, none⟩ u i (fun e => hne (by rw [e]))⟩ hb g0 g1 g2
theorem Tab.lt (h : Tab W b M0 M1 M2 n ok0 ok1 ok2 l0 l1 l2) : M2 < W.heap.size := h.h2.lt
end
structure LdInv (w wr : World) (gr gt M0 M1 M2 n : Nat) (d0 d1 d2 : Value) (ok0 ok1 ok2 : Nat → Prop) (l0 : List S37) (l1 : List S40) (l2 : List S43) : Prop where
 hb : Below w.heap.size w wr
 hp : wr.heap[w.heap.size]? = some (.cells #[d0, d1, d2] 26 (0, 0))
 hr : wr.heap[gr]? = some (.cells #[.map none, .map none, .map none] 74 (0, 0))
 ht : wr.heap[gt]? = some (.cells #[.map (some M0), .map (some M1), .map (some M2)] 74 (0, 0))
 tb : Tab wr w.heap.size M0 M1 M2 n ok0 ok1 ok2 l0 l1 l2
 o1 : w.heap.size < gr
 o2 : gr < M0
 o3 : M2 < gt
section
variable {w wr W' : World} {gr gt M0 M1 M2 n : Nat} {d0 d1 d2 : Value} {ok0 ok1 ok2 : Nat → Prop} {l0 : List S37} {l1 : List S40} {l2 : List S43}
theorem LdInv.below (h : LdInv w wr gr gt M0 M1 M2 n d0 d1 d2 ok0 ok1 ok2 l0 l1 l2) (hb : Below wr.heap.size wr W') : LdInv w W' gr gt M0 M1 M2 n d0 d1 d2 ok0 ok1 ok2 l0 l1 l2 :=
 ⟨h.hb.trans (hb.mono h.hb.size), kB h.hp hb, kB h.hr hb, kB h.ht hb, h.tb.below hb, h.o1, h.o2, h.o3⟩
theorem LdInv.alloc (h : LdInv w wr gr gt M0 M1 M2 n d0 d1 d2 ok0 ok1 ok2 l0 l1 l2) (o : Obj) : LdInv w (wr.alloc o) gr gt M0 M1 M2 n d0 d1 d2 ok0 ok1 ok2 l0 l1 l2 := h.below (bA (Below.refl _ _) o)
theorem LdInv.turn {M n' : Nat} {l0' : List S37} {l1' : List S40} {l2' : List S43} (h : LdInv w wr gr gt M0 M1 M2 n d0 d1 d2 ok0 ok1 ok2 l0 l1 l2) (hg : wr.grownBy W' (some M)) (hM : M = M0 ∨ M = M1 ∨ M = M2) (ht : Tab W' w.heap.size M0 M1 M2 n' ok0 ok1 ok2 l0' l1' l2') : LdInv w W' gr gt M0 M1 M2 n' d0 d1 d2 ok0 ok1 ok2 l0' l1' l2' :=
 have a := h.tb.b0; have a1 := h.tb.b1; have a2 := h.tb.b2; have o1 := h.o1; have o2 := h.o2; have o3 := h.o3
 ⟨h.hb.grown hg h.hb.size (fun k hk => by cases hk; omega), (hg.block _ (blk_lt h.hp) (by simp; omega)).trans h.hp, (hg.block _ (blk_lt h.hr) (by simp; omega)).trans h.hr, (hg.block _ (blk_lt h.ht) (by simp; omega)).trans h.ht, ht, h.o1, h.o2, h.o3⟩
end
theorem LdInv.start (w : World) (d0 d1 d2 : Value) (P0_ P1_ P2_ : Nat → Prop) : LdInv w ((((((w.alloc (.cells #[d0, d1, d2] 26)).alloc (.cells #[.map none, .map none, .map none] 74)).alloc (.map #[] 0)).alloc (.map #[] 0)).alloc (.map #[] 0)).alloc (.cells #[.map (some (w.heap.size + 1 + 1)), .map (some (w.heap.size + 1 + 1 + 1)), .map (some (w.heap.size + 1 + 1 + 1 + 1))] 74)) (w.heap.size + 1) (w.heap.size + 1 + 1 + 1 + 1 + 1) (w.heap.size + 1 + 1) (w.heap.size + 1 + 1 + 1) (w.heap.size + 1 + 1 + 1 + 1) 0 d0 d1 d2 (fun k => P0_ k ∧ k < w.heap.size) (fun k => P1_ k ∧ k < w.heap.size) (fun k => P2_ k ∧ k < w.heap.size) [] [] [] := by
 have s1 : (w.alloc (.cells #[d0, d1, d2] 26)).heap.size = w.heap.size + 1 := by simp
 have s2 : ((w.alloc (.cells #[d0, d1, d2] 26)).alloc (.cells #[.map none, .map none, .map none] 74)).heap.size = w.heap.size + 1 + 1 := by simp
 have s3 : (((w.alloc (.cells #[d0, d1, d2] 26)).alloc (.cells #[.map none, .map none, .map none] 74)).alloc (.map #[] 0)).heap.size = w.heap.size + 1 + 1 + 1 := by simp
 have s4 : ((((w.alloc (.cells #[d0, d1, d2] 26)).alloc (.cells #[.map none, .map none, .map none] 74)).alloc (.map #[] 0)).alloc (.map #[] 0)).heap.size = w.heap.size + 1 + 1 + 1 + 1 := by simp
 have s5 : (((((w.alloc (.cells #[d0, d1, d2] 26)).alloc (.cells #[.map none, .map none, .map none] 74)).alloc (.map #[] 0)).alloc (.map #[] 0)).alloc (.map #[] 0)).heap.size = w.heap.size + 1 + 1 + 1 + 1 + 1 := by simp
 refine ⟨bA (bA (bA (bA (bA (bA (Below.refl _ _) _) _) _) _) _) _, kA (kA (kA (kA (kA (blk_new w _) _) _) _) _) _, ?_, ?_, ⟨?_, ?_, ?_, by omega, by omega, by omega, fun k hk => hk.2, fun k hk => hk.2, fun k hk => hk.2⟩, by omega, by omega, by omega⟩
 ·rw [← s1]; exact kA (kA (kA (kA (blk_new _ _) _) _) _) _
 ·have h := blk_new (((((w.alloc (.cells #[d0, d1, d2] 26)).alloc (.cells #[.map none, .map none, .map none] 74)).alloc (.map #[] 0)).alloc (.map #[] 0)).alloc (.map #[] 0)) (.cells #[.map (some (w.heap.size + 1 + 1)), .map (some (w.heap.size + 1 + 1 + 1)), .map (some (w.heap.size + 1 + 1 + 1 + 1))] 74); rw [s5] at h; exact h
 ·rw [← s2]; exact (((HasMap.made _ _ _ _ _).alloc _).alloc _).alloc _
 ·rw [← s3]; exact ((HasMap.made _ _ _ _ _).alloc _).alloc _
 ·rw [← s4]; exact (HasMap.made _ _ _ _ _).alloc _
theorem ins_take {α : Type} {id : α → Int} {l : List α} (h : Rising id l) {i : Nat} (hi : i < l.length) : ins id l[i] (l.take i) = l.take (i + 1) := by
 rw [ins_last, List.take_succ_eq_append_getElem hi]; intro y hy; obtain ⟨j, hj, rfl⟩ := List.getElem_of_mem hy; rw [List.getElem_take]; exact (List.pairwise_iff_getElem.1 h) j i _ hi (by rw [List.length_take] at hj; omega)
theorem atV37 {w : World} {base : Nat} {ok : Nat → Prop} {A : Option Addr} {c : Nat} {xs : List S37} (h : Kd.V k37 37 w base ok (.slice A xs.length c) xs) (i : Nat) (hi : i < xs.length) : ∃ ad A3 c3, A = some ad ∧ w.cell? (ad.add (i * 4)) = some (.int .i64 xs[i].f0) ∧ w.cell? ⟨(ad.add (i * 4)).block, (ad.add (i * 4)).off + 1, none⟩ = some (.int .i64 xs[i].f1.f0) ∧ w.cell? ⟨(ad.add (i * 4)).block, (ad.add (i * 4)).off + 2, none⟩ = some (.int .i64 xs[i].f1.f1) ∧ w.cell? ⟨(ad.add (i * 4)).block, (ad.add (i * 4)).off + 3, none⟩ = some (.slice A3 xs[i].f2.length c3) ∧ Kd.FK k37 w ok xs[i] [.int .i64 xs[i].f0, .int .i64 xs[i].f1.f0, .int .i64 xs[i].f1.f1, .slice A3 xs[i].f2.length c3] := by
 obtain ⟨ad, hA, _⟩ := (Kd.V_reads' h).2.2.2.2 (by omega); subst hA; obtain ⟨cs, hcl, hf, hcc⟩ := Kd.V_get h z37 (i : Int) (by omega) (by omega); rw [Int.toNat_natCast, List.getD_eq_getElem?_getD, List.getElem?_eq_getElem hi] at hf; rw [Int.toNat_natCast] at hcc; obtain ⟨A3, c3, rfl, hl3, hi3⟩ := k37_open (Kd.FK_now hf); refine ⟨ad, A3, c3, rfl, hcc 0 _ rfl, (by rw [← add_field _ _ 1 (by omega)]; exact hcc 1 _ rfl), (by rw [← add_field _ _ 2 (by omega)]; exact hcc 2 _ rfl), (by rw [← add_field _ _ 3 (by omega)]; exact hcc 3 _ rfl), hf⟩
theorem atV40 {w : World} {base : Nat} {ok : Nat → Prop} {A : Option Addr} {c : Nat} {xs : List S40} (h : Kd.V k40 40 w base ok (.slice A xs.length c) xs) (i : Nat) (hi : i < xs.length) : ∃ ad A1 c1 A2 c2, A = some ad ∧ w.cell? (ad.add (i * 3)) = some (.int .i64 xs[i].f0) ∧ w.cell? ⟨(ad.add (i * 3)).block, (ad.add (i * 3)).off + 1, none⟩ = some (.slice A1 xs[i].f1.length c1) ∧ w.cell? ⟨(ad.add (i * 3)).block, (ad.add (i * 3)).off + 2, none⟩ = some (.slice A2 xs[i].f2.length c2) ∧ Kd.FK k40 w ok xs[i] [.int .i64 xs[i].f0, .slice A1 xs[i].f1.length c1, .slice A2 xs[i].f2.length c2] := by
 obtain ⟨ad, hA, _⟩ := (Kd.V_reads' h).2.2.2.2 (by omega); subst hA; obtain ⟨cs, hcl, hf, hcc⟩ := Kd.V_get h z40 (i : Int) (by omega) (by omega); rw [Int.toNat_natCast, List.getD_eq_getElem?_getD, List.getElem?_eq_getElem hi] at hf; rw [Int.toNat_natCast] at hcc; obtain ⟨A1, c1, A2, c2, rfl, hl1, hi1, hl2, hi2⟩ := k40_open (Kd.FK_now hf); refine ⟨ad, A1, c1, A2, c2, rfl, hcc 0 _ rfl, (by rw [← add_field _ _ 1 (by omega)]; exact hcc 1 _ rfl), (by rw [← add_field _ _ 2 (by omega)]; exact hcc 2 _ rfl), hf⟩
theorem atV43 {w : World} {base : Nat} {ok : Nat → Prop} {A : Option Addr} {c : Nat} {xs : List S43} (h : Kd.V k43 43 w base ok (.slice A xs.length c) xs) (i : Nat) (hi : i < xs.length) : ∃ ad A1 c1 A2 c2, A = some ad ∧ w.cell? (ad.add (i * 3)) = some (.int .i64 xs[i].f0) ∧ w.cell? ⟨(ad.add (i * 3)).block, (ad.add (i * 3)).off + 1, none⟩ = some (.slice A1 xs[i].f1.length c1) ∧ w.cell? ⟨(ad.add (i * 3)).block, (ad.add (i * 3)).off + 2, none⟩ = some (.slice A2 xs[i].f2.length c2) ∧ Kd.FK k43 w ok xs[i] [.int .i64 xs[i].f0, .slice A1 xs[i].f1.length c1, .slice A2 xs[i].f2.length c2] := by
 obtain ⟨ad, hA, _⟩ := (Kd.V_reads' h).2.2.2.2 (by omega); subst hA; obtain ⟨cs, hcl, hf, hcc⟩ := Kd.V_get h z43 (i : Int) (by omega) (by omega); rw [Int.toNat_natCast, List.getD_eq_getElem?_getD, List.getElem?_eq_getElem hi] at hf; rw [Int.toNat_natCast] at hcc; obtain ⟨A1, c1, A2, c2, rfl, hl1, hi1, hl2, hi2⟩ := k43_open (Kd.FK_now hf); refine ⟨ad, A1, c1, A2, c2, rfl, hcc 0 _ rfl, (by rw [← add_field _ _ 1 (by omega)]; exact hcc 1 _ rfl), (by rw [← add_field _ _ 2 (by omega)]; exact hcc 2 _ rfl), hf⟩
set_option maxHeartbeats 8000000 in
set_option maxRecDepth 100000 in
theorem change_load.callsM (P0_ P1_ P2_ : Nat → Prop) (A0_0 : Option Addr) (c0_0 : Nat) (l0_0 : List S37) (A0_1 : Option Addr) (c0_1 : Nat) (l0_1 : List S40) (A0_2 : Option Addr) (c0_2 : Nat) (l0_2 : List S43) (w : World)
  (hs0 : Kd.V k37 37 w w.heap.size P0_ (.slice A0_0 l0_0.length c0_0) l0_0) (hs1 : Kd.V k40 40 w w.heap.size P1_ (.slice A0_1 l0_1.length c0_1) l0_1) (hs2 : Kd.V k43 43 w w.heap.size P2_ (.slice A0_2 l0_2.length c0_2) l0_2)
  (hl : l0_0.length ≤ 10000 ∧ l0_1.length ≤ 10000 ∧ l0_2.length ≤ 10000) (hR : Rising (fun x : S37 => x.f0) l0_0 ∧ Rising (fun x : S40 => x.f0) l0_1 ∧ Rising (fun x : S43 => x.f0) l0_2)
  (hw : (∀ x ∈ l0_0, (Lit.int .i64 x.f0).wf = true) ∧ (∀ x ∈ l0_1, (Lit.int .i64 x.f0).wf = true) ∧ ∀ x ∈ l0_2, (Lit.int .i64 x.f0).wf = true) :
  Calls Tryz.prog 30 #[.agg #[.slice A0_0 l0_0.length c0_0, .slice A0_1 l0_1.length c0_1, .slice A0_2 l0_2.length c0_2]] w fun e w' => ∃ M0 M1 M2, e = .returned (.agg #[.map (some M0), .map (some M1), .map (some M2)]) ∧ Tab w' w.heap.size M0 M1 M2 (l0_0.length + l0_1.length + l0_2.length) (fun k => P0_ k ∧ k < w.heap.size) (fun k => P1_ k ∧ k < w.heap.size) (fun k => P2_ k ∧ k < w.heap.size) l0_0 l0_1 l0_2 ∧ Below w.heap.size w w' := by
 have hu26 := Tryz.underlying26; have hu74 := Tryz.underlying74; have hu37 := Tryz.underlying37; have hu40 := Tryz.underlying40; have hu43 := Tryz.underlying43; have hmm := @run_makeMap Tryz.prog; have V0 := aM (Kd.V_bound hs0); have V1 := aM (Kd.V_bound hs1); have V2 := aM (Kd.V_bound hs2); have HL := aM hl; have HR := aM hR; have HW := aM hw; have hst := LdInv.start w (.slice A0_0 l0_0.length c0_0) (.slice A0_1 l0_1.length c0_1) (.slice A0_2 l0_2.length c0_2) P0_ P1_ P2_; clear hs0 hs1 hs2 hl hR hw; obtain ⟨w4, hw4⟩ : ∃ w4, w4 = ((((((w.alloc (.cells #[.slice A0_0 l0_0.length c0_0, .slice A0_1 l0_1.length c0_1, .slice A0_2 l0_2.length c0_2] 26)).alloc (.cells #[.map none, .map none, .map none] 74)).alloc (.map #[] 0)).alloc (.map #[] 0)).alloc (.map #[] 0)).alloc (.cells #[.map (some (w.heap.size + 1 + 1)), .map (some (w.heap.size + 1 + 1 + 1)), .map (some (w.heap.size + 1 + 1 + 1 + 1))] 74)) := ⟨_, rfl⟩; rw [← hw4] at hst; have HW4 := aM hw4; have HST := aM hst; clear hw4 hst; go_enter Tryz.func30, Tryz.ntmps30
 go_wp2
 all_goals
  clear hmm; rw [← HW4.out]; clear HW4; have HN := aM (show w.heap.size < w.heap.size + 1 by omega); generalize w.heap.size + 1 + 1 + 1 + 1 + 1 = gt at HST ⊢; generalize w.heap.size + 1 + 1 + 1 + 1 = M2 at HST ⊢; generalize w.heap.size + 1 + 1 + 1 = M1 at HST ⊢; generalize w.heap.size + 1 + 1 = M0 at HST ⊢; generalize w.heap.size + 1 = gr at HST ⊢
  go_loopg [17] l0_0.length (fun gg v wr => ∃ i : Nat, i ≤ l0_0.length ∧ l0_0.length - i ≤ gg ∧ v = .int .i64 i ∧ Aside0 (LdInv w wr gr gt M0 M1 M2 (i) (.slice A0_0 l0_0.length c0_0) (.slice A0_1 l0_1.length c0_1) (.slice A0_2 l0_2.length c0_2) (fun k => P0_ k ∧ k < w.heap.size) (fun k => P1_ k ∧ k < w.heap.size) (fun k => P2_ k ∧ k < w.heap.size) (l0_0.take i) ([]) ([])))
  case atStart => exact ⟨0, by omega, by omega, rfl, HST⟩
  case round =>
   clear HST; obtain ⟨i, hi, hg, rfl, IV⟩ := hrel
   by_cases hlt : i < l0_0.length
   ·have hltI : (i : Int) < (l0_0.length : Int) := by omega
    obtain ⟨ad, A3, c3, e0, hx0, hx1, hx2, hx3, hf⟩ := atV37 (Kd.V_below V0.out IV.out.hb) i hlt; cases e0
    have hII := HW.out.1 _ (List.getElem_mem hlt); have TK := aM (ins_take HR.out.1 hlt); generalize l0_0[i] = x at hx0 hx1 hx2 hx3 hf hII TK; have IVx := IV.out.alloc (.cells #[.int .i64 x.f0, .int .i64 x.f1.f0, .int .i64 x.f1.f1, .slice A3 x.f2.length c3] 37); obtain ⟨w', hrun, htb, hgr⟩ := IVx.tb.put0 (by have := HL.out; unfold maxLen; omega) hII (Kd.FK_below hf (bA (Below.refl _ _) _)); have hrun : (Instr.mapUpdate 70 (.map (some M0)) (.int .i64 x.f0) (.agg #[.int .i64 x.f0, .int .i64 x.f1.f0, .int .i64 x.f1.f1, .slice A3 x.f2.length c3])).run Tryz.prog (wr.alloc (.cells #[.int .i64 x.f0, .int .i64 x.f1.f0, .int .i64 x.f1.f1, .slice A3 x.f2.length c3] 37)) = .ok () w' := hrun; have IV' := aM (IVx.turn hgr (.inl rfl) htb); have hc3 : (wr.alloc (.cells #[.int .i64 x.f0, .int .i64 x.f1.f0, .int .i64 x.f1.f1, .slice A3 x.f2.length c3] 37)).cell? ⟨gt, 0, none⟩ = some (.map (some M0)) := (kC IVx.ht 0).trans rfl; have hf3 := kF IVx.ht 0; clear IVx htb hgr hII hf
    go_wp2
    go_roundg (l0_0.length - (i + 1))
    case measure => omega
    case rel => exact ⟨i + 1, by omega, by omega, by have := HL.out; have hw_ := IntWalk.wrap64_in ((i : Int) + 1) (by omega); rw [hw_]; go_num, ⟨by rw [← TK.out]; exact IV'.out⟩⟩
   ·have : i = l0_0.length := by omega
    subst this; have EV0 := aM (show LdInv w wr gr gt M0 M1 M2 (l0_0.length) (.slice A0_0 l0_0.length c0_0) (.slice A0_1 l0_1.length c0_1) (.slice A0_2 l0_2.length c0_2) (fun k => P0_ k ∧ k < w.heap.size) (fun k => P1_ k ∧ k < w.heap.size) (fun k => P2_ k ∧ k < w.heap.size) (l0_0) ([]) ([]) from by have := IV.out; rwa [List.take_length] at this); clear IV; have hd : wr.cell? ⟨w.heap.size, 1, none⟩ = some (.slice A0_1 l0_1.length c0_1) := (kC EV0.out.hp 1).trans rfl
    go_wp2
    clear hd
    go_loopg [30] l0_1.length (fun gg v wr => ∃ i : Nat, i ≤ l0_1.length ∧ l0_1.length - i ≤ gg ∧ v = .int .i64 i ∧ Aside0 (LdInv w wr gr gt M0 M1 M2 (l0_0.length + i) (.slice A0_0 l0_0.length c0_0) (.slice A0_1 l0_1.length c0_1) (.slice A0_2 l0_2.length c0_2) (fun k => P0_ k ∧ k < w.heap.size) (fun k => P1_ k ∧ k < w.heap.size) (fun k => P2_ k ∧ k < w.heap.size) (l0_0) (l0_1.take i) ([])))
    case atStart => exact ⟨0, by omega, by omega, rfl, ⟨by have := EV0.out; exact this⟩⟩
    case round =>
     clear EV0; obtain ⟨i, hi, hg, rfl, IV⟩ := hrel
     by_cases hlt : i < l0_1.length
     ·have hltI : (i : Int) < (l0_1.length : Int) := by omega
      obtain ⟨ad, A1, c1, A2, c2, e0, hx0, hx1, hx2, hf⟩ := atV40 (Kd.V_below V1.out IV.out.hb) i hlt; cases e0
      have hII := HW.out.2.1 _ (List.getElem_mem hlt); have TK := aM (ins_take HR.out.2.1 hlt); generalize l0_1[i] = x at hx0 hx1 hx2 hf hII TK; have IVx := IV.out.alloc (.cells #[.int .i64 x.f0, .slice A1 x.f1.length c1, .slice A2 x.f2.length c2] 40); obtain ⟨w', hrun, htb, hgr⟩ := IVx.tb.put1 (by have := HL.out; unfold maxLen; omega) hII (Kd.FK_below hf (bA (Below.refl _ _) _)); have hrun : (Instr.mapUpdate 71 (.map (some M1)) (.int .i64 x.f0) (.agg #[.int .i64 x.f0, .slice A1 x.f1.length c1, .slice A2 x.f2.length c2])).run Tryz.prog (wr.alloc (.cells #[.int .i64 x.f0, .slice A1 x.f1.length c1, .slice A2 x.f2.length c2] 40)) = .ok () w' := hrun; have IV' := aM (IVx.turn hgr (.inr (.inl rfl)) htb); have hc3 : (wr.alloc (.cells #[.int .i64 x.f0, .slice A1 x.f1.length c1, .slice A2 x.f2.length c2] 40)).cell? ⟨gt, 1, none⟩ = some (.map (some M1)) := (kC IVx.ht 1).trans rfl; have hf3 := kF IVx.ht 1; clear IVx htb hgr hII hf
      go_wp2
      go_roundg (l0_1.length - (i + 1))
      case measure => omega
      case rel => exact ⟨i + 1, by omega, by omega, by have := HL.out; have hw_ := IntWalk.wrap64_in ((i : Int) + 1) (by omega); rw [hw_]; go_num, ⟨by rw [← TK.out]; exact IV'.out⟩⟩
     ·have : i = l0_1.length := by omega
      subst this; have EV1 := aM (show LdInv w wr gr gt M0 M1 M2 (l0_0.length + l0_1.length) (.slice A0_0 l0_0.length c0_0) (.slice A0_1 l0_1.length c0_1) (.slice A0_2 l0_2.length c0_2) (fun k => P0_ k ∧ k < w.heap.size) (fun k => P1_ k ∧ k < w.heap.size) (fun k => P2_ k ∧ k < w.heap.size) (l0_0) (l0_1) ([]) from by have := IV.out; rwa [List.take_length] at this); clear IV; have hd : wr.cell? ⟨w.heap.size, 2, none⟩ = some (.slice A0_2 l0_2.length c0_2) := (kC EV1.out.hp 2).trans rfl
      go_wp2
      clear hd
      go_loopg [43] l0_2.length (fun gg v wr => ∃ i : Nat, i ≤ l0_2.length ∧ l0_2.length - i ≤ gg ∧ v = .int .i64 i ∧ Aside0 (LdInv w wr gr gt M0 M1 M2 (l0_0.length + l0_1.length + i) (.slice A0_0 l0_0.length c0_0) (.slice A0_1 l0_1.length c0_1) (.slice A0_2 l0_2.length c0_2) (fun k => P0_ k ∧ k < w.heap.size) (fun k => P1_ k ∧ k < w.heap.size) (fun k => P2_ k ∧ k < w.heap.size) (l0_0) (l0_1) (l0_2.take i)))
      case atStart => exact ⟨0, by omega, by omega, rfl, ⟨by have := EV1.out; exact this⟩⟩
      case round =>
       clear EV1; obtain ⟨i, hi, hg, rfl, IV⟩ := hrel
       by_cases hlt : i < l0_2.length
       ·have hltI : (i : Int) < (l0_2.length : Int) := by omega
        obtain ⟨ad, A1, c1, A2, c2, e0, hx0, hx1, hx2, hf⟩ := atV43 (Kd.V_below V2.out IV.out.hb) i hlt; cases e0
        have hII := HW.out.2.2 _ (List.getElem_mem hlt); have TK := aM (ins_take HR.out.2.2 hlt); generalize l0_2[i] = x at hx0 hx1 hx2 hf hII TK; have IVx := IV.out.alloc (.cells #[.int .i64 x.f0, .slice A1 x.f1.length c1, .slice A2 x.f2.length c2] 43); obtain ⟨w', hrun, htb, hgr⟩ := IVx.tb.put2 (by have := HL.out; unfold maxLen; omega) hII (Kd.FK_below hf (bA (Below.refl _ _) _)); have hrun : (Instr.mapUpdate 72 (.map (some M2)) (.int .i64 x.f0) (.agg #[.int .i64 x.f0, .slice A1 x.f1.length c1, .slice A2 x.f2.length c2])).run Tryz.prog (wr.alloc (.cells #[.int .i64 x.f0, .slice A1 x.f1.length c1, .slice A2 x.f2.length c2] 43)) = .ok () w' := hrun; have IV' := aM (IVx.turn hgr (.inr (.inr rfl)) htb); have hc3 : (wr.alloc (.cells #[.int .i64 x.f0, .slice A1 x.f1.length c1, .slice A2 x.f2.length c2] 43)).cell? ⟨gt, 2, none⟩ = some (.map (some M2)) := (kC IVx.ht 2).trans rfl; have hf3 := kF IVx.ht 2; clear IVx htb hgr hII hf
        go_wp2
        go_roundg (l0_2.length - (i + 1))
        case measure => omega
        case rel => exact ⟨i + 1, by omega, by omega, by have := HL.out; have hw_ := IntWalk.wrap64_in ((i : Int) + 1) (by omega); rw [hw_]; go_num, ⟨by rw [← TK.out]; exact IV'.out⟩⟩
       ·have : i = l0_2.length := by omega
        subst this; have EV2 := aM (show LdInv w wr gr gt M0 M1 M2 (l0_0.length + l0_1.length + l0_2.length) (.slice A0_0 l0_0.length c0_0) (.slice A0_1 l0_1.length c0_1) (.slice A0_2 l0_2.length c0_2) (fun k => P0_ k ∧ k < w.heap.size) (fun k => P1_ k ∧ k < w.heap.size) (fun k => P2_ k ∧ k < w.heap.size) (l0_0) (l0_1) (l0_2) from by have := IV.out; rwa [List.take_length] at this); clear IV; have hq0 : wr.cell? ⟨gt, 0, none⟩ = some (.map (some M0)) := (kC EV2.out.ht 0).trans rfl; have hq1 : wr.cell? ⟨gt, 1, none⟩ = some (.map (some M1)) := (kC EV2.out.ht 1).trans rfl; have hq2 : wr.cell? ⟨gt, 2, none⟩ = some (.map (some M2)) := (kC EV2.out.ht 2).trans rfl; have hr0 : wr.cell? ⟨gr, 0, none⟩ = some (.map none) := (kC EV2.out.hr 0).trans rfl; have hr1 : wr.cell? ⟨gr, 1, none⟩ = some (.map none) := (kC EV2.out.hr 1).trans rfl; have hr2 : wr.cell? ⟨gr, 2, none⟩ = some (.map none) := (kC EV2.out.hr 2).trans rfl; have hz0 := kF EV2.out.hr 0; have hz1 := kF EV2.out.hr 1; have hz2 := kF EV2.out.hr 2
        go_wp2
        refine bodyPost_ret (results_cell_row rfl _ _ gr 74 #[.map (some M0), .map (some M1), .map (some M2)] (0, 0) _ rfl (by refine kP (cs := #[.map (some M0), .map (some M1), .map none]) ?_ 2 _ rfl; refine kP (cs := #[.map (some M0), .map none, .map none]) ?_ 1 _ rfl; refine kP (cs := #[.map none, .map none, .map none]) ?_ 0 _ rfl; exact EV2.out.hr) Tryz.underlying74 rfl (by kernel_rfl)) rfl ?_; have hge : w.heap.size ≤ gr := by have := EV2.out.o1; omega
        refine ⟨M0, M1, M2, rfl, ?_, bT (bT (bT EV2.out.hb hge) hge) hge⟩; have g0 := EV2.out.tb.b0; have g1 := EV2.out.tb.b1; have g2 := EV2.out.tb.b2; have g3 := EV2.out.o2; exact ((EV2.out.tb.setCell hge (by omega) (by omega) (by omega) 0 _).setCell hge (by omega) (by omega) (by omega) 1 _).setCell hge (by omega) (by omega) (by omega) 2 _
theorem tbz37 (w : World) : (zeroValue 37).run Tryz.prog w = .ok (.agg [.int .i64 0, .int .i64 0, .int .i64 0, .slice none 0 0].toArray) w := by kernel_rfl
theorem tbz40 (w : World) : (zeroValue 40).run Tryz.prog w = .ok (.agg [.int .i64 0, .slice none 0 0, .slice none 0 0].toArray) w := by kernel_rfl
theorem tbz43 (w : World) : (zeroValue 43).run Tryz.prog w = .ok (.agg [.int .i64 0, .slice none 0 0, .slice none 0 0].toArray) w := by kernel_rfl
def hasT (kind id : Int) (l0 : List S37) (l1 : List S40) (l2 : List S43) : Bool :=
 if kind = 1 then l0.any (fun x => x.f0 == id) else if kind = 2 then l1.any (fun x => x.f0 == id) else if kind = 3 then l2.any (fun x => x.f0 == id) else false
set_option maxHeartbeats 4000000 in
set_option maxRecDepth 100000 in
theorem table_has.callsM {b M0 M1 M2 n : Nat} {ok0 ok1 ok2 : Nat → Prop} {l0 : List S37} {l1 : List S40} {l2 : List S43} (kind id : Int) (w : World) (tb : Tab w b M0 M1 M2 n ok0 ok1 ok2 l0 l1 l2) (hid : (Lit.int .i64 id).wf = true) :
  Calls Tryz.prog 53 #[.agg #[.map (some M0), .map (some M1), .map (some M2)], .agg #[.int .i64 kind, .int .i64 id]] w fun e w' => e = .returned (.bool (hasT kind id l0 l1 l2)) ∧ Below w.heap.size w w' := by
 have hu74 := Tryz.underlying74; have hu48 := Tryz.underlying48; obtain ⟨w2, hw2⟩ : ∃ w2, w2 = (w.alloc (.cells #[.map (some M0), .map (some M1), .map (some M2)] 74)).alloc (.cells #[.int .i64 kind, .int .i64 id] 48) := ⟨_, rfl⟩; have tb2 : Tab w2 b M0 M1 M2 n ok0 ok1 ok2 l0 l1 l2 := by rw [hw2]; exact (tb.alloc _).alloc _
 have HB : Aside0 (Below w.heap.size w w2) := ⟨by rw [hw2]; exact bA (bA (Below.refl _ _) _) _⟩; obtain ⟨cs0, hq0, _⟩ := tb2.h0.look tbKeyed Tryz.underlying3 Tryz.underlying70 (tbz37 _) hid; obtain ⟨cs1, hq1, _⟩ := tb2.h1.look tbKeyed Tryz.underlying3 Tryz.underlying71 (tbz40 _) hid; obtain ⟨cs2, hq2, _⟩ := tb2.h2.look tbKeyed Tryz.underlying3 Tryz.underlying72 (tbz43 _) hid; have HW2 := aM hw2; clear tb tb2; rw [hw2] at hq0 hq1 hq2; clear hw2; go_enter Tryz.func53, Tryz.ntmps53
 go_wp2
 all_goals
  go_ret; clear hq0 hq1 hq2; refine ⟨?_, by rw [← HW2.out]; exact HB.out⟩; refine congrArg (fun b => Ending.returned (.bool b)) ?_; unfold hasT; simp only [beq_iff_eq, beq_eq_false_iff_ne] at *
  simp [*]
section
variable {W W' : World} {b M0 M1 M2 n : Nat} {ok0 ok1 ok2 : Nat → Prop} {l0 : List S37} {l1 : List S40} {l2 : List S43}
theorem Tab.drop0 (h : Tab W b M0 M1 M2 n ok0 ok1 ok2 l0 l1 l2) {a : Int} (ha : (Lit.int .i64 a).wf = true) (ty : TypeId) :
  ∃ W', (Builtin.delete_ #[70, 3] ty #[.map (some M0), .int .i64 a]).run Tryz.prog W = .ok (.tuple #[]) W' ∧ Tab W' b M0 M1 M2 n ok0 ok1 ok2 (l0.filter (fun x => x.f0 != a)) l1 l2 ∧ W.grownBy W' (some M0) := by
 obtain ⟨W', hrun, hm, hg⟩ := h.h0.drop tbKeyed Tryz.underlying3 Tryz.underlying70 ha (fun k hk => by have := h.e0 k hk; have := h.b0; omega) ty; exact ⟨W', hrun, ⟨hm, h.h1.grown hg (by have := h.b1; simp; omega) (fun k hk => by have := h.e1 k hk; have := h.b0; simp; omega), h.h2.grown hg (by have := h.b1; have := h.b2; simp; omega) (fun k hk => by have := h.e2 k hk; have := h.b0; simp; omega), h.b0, h.b1, h.b2, h.e0, h.e1, h.e2⟩, hg⟩
theorem Tab.drop1 (h : Tab W b M0 M1 M2 n ok0 ok1 ok2 l0 l1 l2) {a : Int} (ha : (Lit.int .i64 a).wf = true) (ty : TypeId) :
  ∃ W', (Builtin.delete_ #[71, 3] ty #[.map (some M1), .int .i64 a]).run Tryz.prog W = .ok (.tuple #[]) W' ∧ Tab W' b M0 M1 M2 n ok0 ok1 ok2 l0 (l1.filter (fun x => x.f0 != a)) l2 ∧ W.grownBy W' (some M1) := by
 obtain ⟨W', hrun, hm, hg⟩ := h.h1.drop tbKeyed Tryz.underlying3 Tryz.underlying71 ha (fun k hk => by have := h.e1 k hk; have := h.b0; have := h.b1; omega) ty; exact ⟨W', hrun, ⟨h.h0.grown hg (by have := h.b1; simp; omega) (fun k hk => by have := h.e0 k hk; have := h.b0; have := h.b1; simp; omega), hm, h.h2.grown hg (by have := h.b1; have := h.b2; simp; omega) (fun k hk => by have := h.e2 k hk; have := h.b0; have := h.b1; simp; omega), h.b0, h.b1, h.b2, h.e0, h.e1, h.e2⟩, hg⟩
theorem Tab.drop2 (h : Tab W b M0 M1 M2 n ok0 ok1 ok2 l0 l1 l2) {a : Int} (ha : (Lit.int .i64 a).wf = true) (ty : TypeId) :
  ∃ W', (Builtin.delete_ #[72, 3] ty #[.map (some M2), .int .i64 a]).run Tryz.prog W = .ok (.tuple #[]) W' ∧ Tab W' b M0 M1 M2 n ok0 ok1 ok2 l0 l1 (l2.filter (fun x => x.f0 != a)) ∧ W.grownBy W' (some M2) := by
 obtain ⟨W', hrun, hm, hg⟩ := h.h2.drop tbKeyed Tryz.underlying3 Tryz.underlying72 ha (fun k hk => by have := h.e2 k hk; have := h.b0; have := h.b1; have := h.b2; omega) ty; exact ⟨W', hrun, ⟨h.h0.grown hg (by have := h.b1; have := h.b2; simp; omega) (fun k hk => by have := h.e0 k hk; have := h.b0; have := h.b1; have := h.b2; simp; omega), h.h1.grown hg (by have := h.b2; simp; omega) (fun k hk => by have := h.e1 k hk; have := h.b0; have := h.b1; have := h.b2; simp; omega), hm, h.b0, h.b1, h.b2, h.e0, h.e1, h.e2⟩, hg⟩
end
set_option maxHeartbeats 4000000 in
set_option maxRecDepth 100000 in
theorem table_drop.callsM {b M0 M1 M2 n : Nat} {ok0 ok1 ok2 : Nat → Prop} {l0 : List S37} {l1 : List S40} {l2 : List S43} (kind id : Int) (hk : kind = 1 ∨ kind = 2 ∨ kind = 3) (w : World) (tb : Tab w b M0 M1 M2 n ok0 ok1 ok2 l0 l1 l2) (hid : (Lit.int .i64 id).wf = true) :
  Calls Tryz.prog 54 #[.agg #[.map (some M0), .map (some M1), .map (some M2)], .agg #[.int .i64 kind, .int .i64 id]] w fun e w' => e = .returned (.tuple #[]) ∧ w.heap.size ≤ w'.heap.size ∧ Tab w' b M0 M1 M2 n ok0 ok1 ok2 (if kind = 1 then l0.filter (fun x => x.f0 != id) else l0) (if kind = 2 then l1.filter (fun x => x.f0 != id) else l1) (if kind = 3 then l2.filter (fun x => x.f0 != id) else l2) ∧ w.grownBy w' (some (if kind = 1 then M0 else if kind = 2 then M1 else M2)) := by
 have hu74 := Tryz.underlying74; have hu48 := Tryz.underlying48; obtain ⟨w2, hw2⟩ : ∃ w2, w2 = (w.alloc (.cells #[.map (some M0), .map (some M1), .map (some M2)] 74)).alloc (.cells #[.int .i64 kind, .int .i64 id] 48) := ⟨_, rfl⟩; have tb2 : Tab w2 b M0 M1 M2 n ok0 ok1 ok2 l0 l1 l2 := by rw [hw2]; exact (tb.alloc _).alloc _
 obtain ⟨v0, hq0, tb0, hg0⟩ := tb2.drop0 hid 0; obtain ⟨v1, hq1, tb1, hg1⟩ := tb2.drop1 hid 0; obtain ⟨v2, hq2, tb2', hg2⟩ := tb2.drop2 hid 0; have hsz : Below w.heap.size w w2 := by rw [hw2]; exact bA (bA (Below.refl _ _) _) _
 have fin : ∀ {v : World} {M : Nat}, w2.grownBy v (some M) → w.heap.size ≤ v.heap.size ∧ w.grownBy v (some M) := fun hg =>
  ⟨Nat.le_trans hsz.size hg.size, World.grownBy.andThen (World.grownBy.but ⟨hsz.os, hsz.tape, hsz.output, hsz.size, fun i hi _ => hsz.block i hi⟩ _) hg (fun j hj => .inr hj)⟩
 have F0 := aM (And.intro tb0 (fin hg0)); have F1 := aM (And.intro tb1 (fin hg1)); have F2 := aM (And.intro tb2' (fin hg2)); rw [hw2] at hq0 hq1 hq2; clear hw2 fin hsz tb0 tb1 tb2' hg0 hg1 hg2 tb2 tb; rcases hk with rfl | rfl | rfl
 ·go_enter Tryz.func54, Tryz.ntmps54
  go_wp2
  all_goals
   refine bodyPost_end (results_none rfl _ _ _) rfl ?_; exact ⟨rfl, F0.out.2.1, F0.out.1, F0.out.2.2⟩
 ·go_enter Tryz.func54, Tryz.ntmps54
  go_wp2
  all_goals
   refine bodyPost_end (results_none rfl _ _ _) rfl ?_; exact ⟨rfl, F1.out.2.1, F1.out.1, F1.out.2.2⟩
 ·go_enter Tryz.func54, Tryz.ntmps54
  go_wp2
  all_goals
   refine bodyPost_end (results_none rfl _ _ _) rfl ?_; exact ⟨rfl, F2.out.2.1, F2.out.1, F2.out.2.2⟩
def okC (x : S45) : Bool := decide ((x.f0 = 1 ∨ x.f0 = 2) ∧ 1 ≤ x.f1 ∧ x.f1 ≤ 3)
def chID (x : S45) : Int := if x.f1 = 1 then x.f2.f0 else if x.f1 = 2 then x.f3.f0 else x.f4.f0
def apE (x : S45) (l0 : List S37) (l1 : List S40) (l2 : List S43) : Int := if okC x = true then (if x.f0 = 2 ∧ hasT x.f1 (chID x) l0 l1 l2 = false then 8 else 0) else 1
def ap0 (x : S45) (l : List S37) : List S37 := if x.f1 = 1 then (if x.f0 = 2 then l.filter (fun y => y.f0 != chID x) else ins (fun y => y.f0) x.f2 l) else l
def ap1 (x : S45) (l : List S40) : List S40 := if x.f1 = 2 then (if x.f0 = 2 then l.filter (fun y => y.f0 != chID x) else ins (fun y => y.f0) x.f3 l) else l
def ap2 (x : S45) (l : List S43) : List S43 := if x.f1 = 3 then (if x.f0 = 2 then l.filter (fun y => y.f0 != chID x) else ins (fun y => y.f0) x.f4 l) else l
theorem but_of_below {w w' : World} (h : Below w.heap.size w w') (r : Option Nat) : w.grownBy w' r := World.grownBy.but ⟨h.os, h.tape, h.output, h.size, fun i hi _ => h.block i hi⟩ _
theorem okC_check {x : S45} (h : okC x = true) : change_Check.f x.f0 x.f1 x.f2.f0 x.f2.f1.f0 x.f2.f1.f1 x.f2.f2 x.f3.f0 x.f3.f1 x.f3.f2 x.f4.f0 x.f4.f1 x.f4.f2 = some 0 := by
 simp only [okC, decide_eq_true_eq] at h; obtain ⟨h0, h1, h2⟩ := h; unfold change_Check.f; rcases h0 with h0 | h0 <;> simp only [h0, if_true] <;> simp only [show ¬ x.f1 < 1 by omega, show ¬ x.f1 > 3 by omega, if_false] <;> simp
theorem okC_check' {x : S45} (h : okC x = false) : change_Check.f x.f0 x.f1 x.f2.f0 x.f2.f1.f0 x.f2.f1.f1 x.f2.f2 x.f3.f0 x.f3.f1 x.f3.f2 x.f4.f0 x.f4.f1 x.f4.f2 = some 1 := by
 simp only [okC, decide_eq_false_iff_not] at h; unfold change_Check.f
 by_cases h0 : x.f0 = 1
 ·by_cases h1 : x.f1 < 1
  ·simp [h0, h1]
  ·by_cases h2 : x.f1 > 3
   ·simp [h0, h1, h2]
   ·exact absurd ⟨.inl h0, by omega, by omega⟩ h
 ·by_cases h0' : x.f0 = 2
  ·by_cases h1 : x.f1 < 1
   ·simp [h0', h1]
   ·by_cases h2 : x.f1 > 3
    ·simp [h0', h1, h2]
    ·exact absurd ⟨.inr h0', by omega, by omega⟩ h
  ·simp [h0, h0']
theorem okC_ref {x : S45} (h : okC x = true) : change_Ref.f x.f0 x.f1 x.f2.f0 x.f2.f1.f0 x.f2.f1.f1 x.f2.f2 x.f3.f0 x.f3.f1 x.f3.f2 x.f4.f0 x.f4.f1 x.f4.f2 = some (x.f1, chID x) := by
 unfold change_Ref.f chID; rw [okC_check h]; simp only [Option.bind_some, if_true]
 repeat' split
 all_goals rfl
structure ApInv (w wr : World) (cs : Array Value) (b M0 M1 M2 n : Nat) (ok : Nat → Prop) (l0 : List S37) (l1 : List S40) (l2 : List S43) : Prop where
 hb : Below w.heap.size w wr
 ht : wr.heap[w.heap.size]? = some (.cells #[.map (some M0), .map (some M1), .map (some M2)] 74 (0, 0))
 hp : wr.heap[w.heap.size + 1]? = some (.cells cs 45 (0, 0))
 tb : Tab wr b M0 M1 M2 n ok ok ok l0 l1 l2
theorem ApInv.below {w wr W' : World} {cs : Array Value} {b M0 M1 M2 n : Nat} {ok : Nat → Prop} {l0 : List S37} {l1 : List S40} {l2 : List S43} (h : ApInv w wr cs b M0 M1 M2 n ok l0 l1 l2) (hb : Below wr.heap.size wr W') : ApInv w W' cs b M0 M1 M2 n ok l0 l1 l2 :=
 ⟨h.hb.trans (hb.mono h.hb.size), kB h.ht hb, kB h.hp hb, h.tb.below hb⟩
theorem ApInv.start {w : World} {b M0 M1 M2 n : Nat} {ok : Nat → Prop} {l0 : List S37} {l1 : List S40} {l2 : List S43} (h : Tab w b M0 M1 M2 n ok ok ok l0 l1 l2) (cs : Array Value) : ApInv w ((w.alloc (.cells #[.map (some M0), .map (some M1), .map (some M2)] 74)).alloc (.cells cs 45)) cs b M0 M1 M2 n ok l0 l1 l2 :=
 ⟨bA (bA (Below.refl _ _) _) _, kA (blk_new w _) _, by have h := blk_new (w.alloc (.cells #[.map (some M0), .map (some M1), .map (some M2)] 74)) (.cells cs 45); simpa using h, (h.alloc _).alloc _⟩
theorem ApInv.cellsC {w wr : World} {x : S45} {A5 : Option Addr} {c5 : Nat} {A7 : Option Addr} {c7 : Nat} {A8 : Option Addr} {c8 : Nat} {A10 : Option Addr} {c10 : Nat} {A11 : Option Addr} {c11 : Nat} {b M0 M1 M2 n : Nat} {ok : Nat → Prop} {l0 : List S37} {l1 : List S40} {l2 : List S43} (h : ApInv w wr #[.int .i64 x.f0, .int .i64 x.f1, .int .i64 x.f2.f0, .int .i64 x.f2.f1.f0, .int .i64 x.f2.f1.f1, .slice A5 x.f2.f2.length c5, .int .i64 x.f3.f0, .slice A7 x.f3.f1.length c7, .slice A8 x.f3.f2.length c8, .int .i64 x.f4.f0, .slice A10 x.f4.f1.length c10, .slice A11 x.f4.f2.length c11] b M0 M1 M2 n ok l0 l1 l2) : wr.cell? ⟨w.heap.size + 1, 0, none⟩ = some (.int .i64 x.f0) ∧ wr.cell? ⟨w.heap.size + 1, 1, none⟩ = some (.int .i64 x.f1) ∧ wr.cell? ⟨w.heap.size + 1, 2, none⟩ = some (.int .i64 x.f2.f0) ∧ wr.cell? ⟨w.heap.size + 1, 3, none⟩ = some (.int .i64 x.f2.f1.f0) ∧ wr.cell? ⟨w.heap.size + 1, 4, none⟩ = some (.int .i64 x.f2.f1.f1) ∧ wr.cell? ⟨w.heap.size + 1, 5, none⟩ = some (.slice A5 x.f2.f2.length c5) ∧ wr.cell? ⟨w.heap.size + 1, 6, none⟩ = some (.int .i64 x.f3.f0) ∧ wr.cell? ⟨w.heap.size + 1, 7, none⟩ = some (.slice A7 x.f3.f1.length c7) ∧ wr.cell? ⟨w.heap.size + 1, 8, none⟩ = some (.slice A8 x.f3.f2.length c8) ∧ wr.cell? ⟨w.heap.size + 1, 9, none⟩ = some (.int .i64 x.f4.f0) ∧ wr.cell? ⟨w.heap.size + 1, 10, none⟩ = some (.slice A10 x.f4.f1.length c10) ∧ wr.cell? ⟨w.heap.size + 1, 11, none⟩ = some (.slice A11 x.f4.f2.length c11) :=
 ⟨(kC h.hp 0).trans rfl, (kC h.hp 1).trans rfl, (kC h.hp 2).trans rfl, (kC h.hp 3).trans rfl, (kC h.hp 4).trans rfl, (kC h.hp 5).trans rfl, (kC h.hp 6).trans rfl, (kC h.hp 7).trans rfl, (kC h.hp 8).trans rfl, (kC h.hp 9).trans rfl, (kC h.hp 10).trans rfl, (kC h.hp 11).trans rfl⟩
theorem ApInv.frzC {w wr : World} {cs : Array Value} {b M0 M1 M2 n : Nat} {ok : Nat → Prop} {l0 : List S37} {l1 : List S40} {l2 : List S43} (h : ApInv w wr cs b M0 M1 M2 n ok l0 l1 l2) : wr.frozen? ⟨w.heap.size + 1, 0, none⟩ = false ∧ wr.frozen? ⟨w.heap.size + 1, 1, none⟩ = false ∧ wr.frozen? ⟨w.heap.size + 1, 2, none⟩ = false ∧ wr.frozen? ⟨w.heap.size + 1, 3, none⟩ = false ∧ wr.frozen? ⟨w.heap.size + 1, 4, none⟩ = false ∧ wr.frozen? ⟨w.heap.size + 1, 5, none⟩ = false ∧ wr.frozen? ⟨w.heap.size + 1, 6, none⟩ = false ∧ wr.frozen? ⟨w.heap.size + 1, 7, none⟩ = false ∧ wr.frozen? ⟨w.heap.size + 1, 8, none⟩ = false ∧ wr.frozen? ⟨w.heap.size + 1, 9, none⟩ = false ∧ wr.frozen? ⟨w.heap.size + 1, 10, none⟩ = false ∧ wr.frozen? ⟨w.heap.size + 1, 11, none⟩ = false :=
 ⟨kF h.hp 0, kF h.hp 1, kF h.hp 2, kF h.hp 3, kF h.hp 4, kF h.hp 5, kF h.hp 6, kF h.hp 7, kF h.hp 8, kF h.hp 9, kF h.hp 10, kF h.hp 11⟩
theorem ApInv.cellsT {w wr : World} {cs : Array Value} {b M0 M1 M2 n : Nat} {ok : Nat → Prop} {l0 : List S37} {l1 : List S40} {l2 : List S43} (h : ApInv w wr cs b M0 M1 M2 n ok l0 l1 l2) : wr.cell? ⟨w.heap.size, 0, none⟩ = some (.map (some M0)) ∧ wr.frozen? ⟨w.heap.size, 0, none⟩ = false ∧ wr.cell? ⟨w.heap.size, 1, none⟩ = some (.map (some M1)) ∧ wr.frozen? ⟨w.heap.size, 1, none⟩ = false ∧ wr.cell? ⟨w.heap.size, 2, none⟩ = some (.map (some M2)) ∧ wr.frozen? ⟨w.heap.size, 2, none⟩ = false :=
 ⟨(kC h.ht 0).trans rfl, kF h.ht 0, (kC h.ht 1).trans rfl, kF h.ht 1, (kC h.ht 2).trans rfl, kF h.ht 2⟩
set_option maxHeartbeats 8000000 in
set_option maxRecDepth 100000 in
theorem table_apply.callsM {b M0 M1 M2 n : Nat} {ok : Nat → Prop} {l0 : List S37} {l1 : List S40} {l2 : List S43} {x : S45} {cs : List Value} (w : World) (tb : Tab w b M0 M1 M2 n ok ok ok l0 l1 l2) (hn : n < maxLen) (hf : Kd.FK k45 w ok x cs)
  (hw0 : (Lit.int .i64 x.f2.f0).wf = true) (hw1 : (Lit.int .i64 x.f3.f0).wf = true) (hw2 : (Lit.int .i64 x.f4.f0).wf = true) :
  Calls Tryz.prog 31 #[.agg #[.map (some M0), .map (some M1), .map (some M2)], .agg cs.toArray] w fun e w' => e = .returned (.int .i64 (apE x l0 l1 l2)) ∧ (apE x l0 l1 l2 = 0 → Tab w' b M0 M1 M2 (n + 1) ok ok ok (ap0 x l0) (ap1 x l1) (ap2 x l2)) ∧ w.heap.size ≤ w'.heap.size ∧ ∃ M, (M = M0 ∨ M = M1 ∨ M = M2) ∧ w.grownBy w' (some M) := by
 have hu74 := Tryz.underlying74; have hu45 := Tryz.underlying45; have hu37 := Tryz.underlying37; have hu40 := Tryz.underlying40; have hu43 := Tryz.underlying43; have hu48 := Tryz.underlying48; have hu34 := Tryz.underlying34; obtain ⟨A5, c5, A7, c7, A8, c8, A10, c10, A11, c11, rfl, l5, g5, l7, g7, l8, g8, l10, g10, l11, g11⟩ := k45_openF hf; have FN : Aside0 (∀ W, Below w.heap.size w W → Kd.FK k37 W ok x.f2 [.int .i64 x.f2.f0, .int .i64 x.f2.f1.f0, .int .i64 x.f2.f1.f1, .slice A5 x.f2.f2.length c5]) := ⟨fun W hW => Kd.FK_below (k37_mkF w ok x.f2 l5 g5) hW⟩; have FW : Aside0 (∀ W, Below w.heap.size w W → Kd.FK k40 W ok x.f3 [.int .i64 x.f3.f0, .slice A7 x.f3.f1.length c7, .slice A8 x.f3.f2.length c8]) := ⟨fun W hW => Kd.FK_below (k40_mkF w ok x.f3 l7 g7 l8 g8) hW⟩; have FR : Aside0 (∀ W, Below w.heap.size w W → Kd.FK k43 W ok x.f4 [.int .i64 x.f4.f0, .slice A10 x.f4.f1.length c10, .slice A11 x.f4.f2.length c11]) := ⟨fun W hW => Kd.FK_below (k43_mkF w ok x.f4 l10 g10 l11 g11) hW⟩; have HX : Aside0 (∀ W, Below w.heap.size w W → k45.K W x [.int .i64 x.f0, .int .i64 x.f1, .int .i64 x.f2.f0, .int .i64 x.f2.f1.f0, .int .i64 x.f2.f1.f1, .slice A5 x.f2.f2.length c5, .int .i64 x.f3.f0, .slice A7 x.f3.f1.length c7, .slice A8 x.f3.f2.length c8, .int .i64 x.f4.f0, .slice A10 x.f4.f1.length c10, .slice A11 x.f4.f2.length c11]) := ⟨fun W hW => Kd.FK_now (Kd.FK_below hf hW)⟩; have HC : Aside0 (∀ W r, Below w.heap.size w W → change_Check.f x.f0 x.f1 x.f2.f0 x.f2.f1.f0 x.f2.f1.f1 x.f2.f2 x.f3.f0 x.f3.f1 x.f3.f2 x.f4.f0 x.f4.f1 x.f4.f2 = some r → Calls Tryz.prog 10 #[.agg #[.int .i64 x.f0, .int .i64 x.f1, .int .i64 x.f2.f0, .int .i64 x.f2.f1.f0, .int .i64 x.f2.f1.f1, .slice A5 x.f2.f2.length c5, .int .i64 x.f3.f0, .slice A7 x.f3.f1.length c7, .slice A8 x.f3.f2.length c8, .int .i64 x.f4.f0, .slice A10 x.f4.f1.length c10, .slice A11 x.f4.f2.length c11]] W fun e w' => e = .returned (.int .i64 r) ∧ Below W.heap.size W w') := ⟨fun W r hW hr => by
  obtain ⟨B5, d5, B7, d7, B8, d8, B10, d10, B11, d11, e, m5, q5, m7, q7, m8, q8, m10, q10, m11, q11⟩ := k45_open (HX.out W hW); simp only [List.cons.injEq, Value.slice.injEq, true_and, and_true] at e; obtain ⟨⟨rfl, rfl⟩, ⟨rfl, rfl⟩, ⟨rfl, rfl⟩, ⟨rfl, rfl⟩, rfl, rfl⟩ := e; exact change_Check.calls _ _ _ _ _ _ _ _ _ _ _ _ _ _ _ _ _ _ _ _ _ _ r W q5 m5 q7 m7 q8 m8 q10 m10 q11 m11 hr⟩
 have HRF : Aside0 (∀ W, Below w.heap.size w W → okC x = true → Calls Tryz.prog 12 #[.agg #[.int .i64 x.f0, .int .i64 x.f1, .int .i64 x.f2.f0, .int .i64 x.f2.f1.f0, .int .i64 x.f2.f1.f1, .slice A5 x.f2.f2.length c5, .int .i64 x.f3.f0, .slice A7 x.f3.f1.length c7, .slice A8 x.f3.f2.length c8, .int .i64 x.f4.f0, .slice A10 x.f4.f1.length c10, .slice A11 x.f4.f2.length c11]] W fun e w' => e = .returned (.agg #[.int .i64 x.f1, .int .i64 (chID x)]) ∧ Below W.heap.size W w') := ⟨fun W hW hr => by
  obtain ⟨B5, d5, B7, d7, B8, d8, B10, d10, B11, d11, e, m5, q5, m7, q7, m8, q8, m10, q10, m11, q11⟩ := k45_open (HX.out W hW); simp only [List.cons.injEq, Value.slice.injEq, true_and, and_true] at e; obtain ⟨⟨rfl, rfl⟩, ⟨rfl, rfl⟩, ⟨rfl, rfl⟩, ⟨rfl, rfl⟩, rfl, rfl⟩ := e; exact change_Ref.calls _ _ _ _ _ _ _ _ _ _ _ _ _ _ _ _ _ _ _ _ _ _ _ _ W q5 m5 q7 m7 q8 m8 q10 m10 q11 m11 (okC_ref hr)⟩
 have HID : Aside0 ((Lit.int .i64 (chID x)).wf = true) := ⟨by unfold chID; (repeat' split) <;> assumption⟩; have HN := aM hn; have HW := aM (And.intro hw0 (And.intro hw1 hw2)); have S2 := aM (ApInv.start tb #[.int .i64 x.f0, .int .i64 x.f1, .int .i64 x.f2.f0, .int .i64 x.f2.f1.f0, .int .i64 x.f2.f1.f1, .slice A5 x.f2.f2.length c5, .int .i64 x.f3.f0, .slice A7 x.f3.f1.length c7, .slice A8 x.f3.f2.length c8, .int .i64 x.f4.f0, .slice A10 x.f4.f1.length c10, .slice A11 x.f4.f2.length c11]); clear hf l5 g5 l7 g7 l8 g8 l10 g10 l11 g11 tb hn hw0 hw1 hw2
 cases hok : okC x with
 | false =>
  have HK := aM (okC_check' hok); have HE : Aside0 (apE x l0 l1 l2 = 1) := ⟨by unfold apE; simp [hok]⟩; clear hok; go_enter Tryz.func31, Tryz.ntmps31
  go_wp2_with (first | (go_at_call 10; refine (HC.out _ 1 S2.out.hb HK.out).mono ?_; rintro e w1 ⟨rfl, hb1⟩; have B1 := aM (S2.out.below hb1)) | go_in)
  all_goals
   go_ret; refine ⟨by rw [HE.out]; rfl, fun h0 => by rw [HE.out] at h0; simp at h0, B1.out.hb.size, M0, .inl rfl, but_of_below B1.out.hb _⟩
 | true =>
  have HO := aM hok; have hk : x.f1 = 1 ∨ x.f1 = 2 ∨ x.f1 = 3 := by simp only [okC, decide_eq_true_eq] at hok; omega
  have ho : x.f0 = 1 ∨ x.f0 = 2 := by simp only [okC, decide_eq_true_eq] at hok; exact hok.1
  clear hok; rcases ho with ho | ho
  ·have ho2 : (x.f0 == 2) = false := by rw [ho]; rfl
   have HE : Aside0 (apE x l0 l1 l2 = 0) := ⟨by unfold apE; rw [HO.out]; simp [ho]⟩; have HOP := aM ho; clear ho; rcases hk with hk | hk | hk
   ·have HIE : Aside0 (x.f2.f0 = chID x) := ⟨by unfold chID; simp [hk]⟩; have hk1 : (x.f1 == 1) = true := by rw [hk]; rfl
    have hk2 : (x.f1 == 2) = false := by rw [hk]; rfl
    have HKK := aM hk; clear hk; go_enter Tryz.func31, Tryz.ntmps31
    go_wp2_with (first | (go_at_call 10; refine (HC.out _ 0 S2.out.hb (okC_check HO.out)).mono ?_; rintro e w1 ⟨rfl, hb1⟩; have B1 := aM (S2.out.below hb1); obtain ⟨ac0, ac1, ac2, ac3, ac4, ac5, ac6, ac7, ac8, ac9, ac10, ac11⟩ := B1.out.cellsC; obtain ⟨az0, az1, az2, az3, az4, az5, az6, az7, az8, az9, az10, az11⟩ := B1.out.frzC; obtain ⟨at0, at1, at2, at3, at4, at5⟩ := B1.out.cellsT) | (go_at_call 12; refine (HRF.out _ B1.out.hb HO.out).mono ?_; clear ac0 ac1 ac2 ac3 ac4 ac5 ac6 ac7 ac8 ac9 ac10 ac11 az0 az1 az2 az3 az4 az5 az6 az7 az8 az9 az10 az11 at0 at1 at2 at3 at4 at5; rintro e w2 ⟨rfl, hb2⟩; have B2 := aM ((B1.out.below hb2).below (W' := w2.alloc (.cells #[.int .i64 x.f1, .int .i64 (chID x)] 48)) (bA (Below.refl _ _) _)); obtain ⟨dc0, dc1, dc2, dc3, dc4, dc5, dc6, dc7, dc8, dc9, dc10, dc11⟩ := B2.out.cellsC; obtain ⟨dz0, dz1, dz2, dz3, dz4, dz5, dz6, dz7, dz8, dz9, dz10, dz11⟩ := B2.out.frzC; obtain ⟨dt0, dt1, dt2, dt3, dt4, dt5⟩ := B2.out.cellsT; obtain ⟨w', hrun, htb, hgr⟩ := B2.out.tb.put0 HN.out HW.out.1 (FN.out _ B2.out.hb); have hrun : (Instr.mapUpdate 70 (.map (some M0)) (.int .i64 (chID x)) (.agg #[.int .i64 x.f2.f0, .int .i64 x.f2.f1.f0, .int .i64 x.f2.f1.f1, .slice A5 x.f2.f2.length c5])).run Tryz.prog (w2.alloc (.cells #[.int .i64 x.f1, .int .i64 (chID x)] 48)) = .ok () w' := HIE.out ▸ hrun; have T5 := aM (And.intro htb hgr); clear htb hgr) | go_in)
    all_goals
     go_ret; have e0 : ap0 x l0 = ins (fun y => y.f0) x.f2 l0 := by unfold ap0; simp [HKK.out, HOP.out]
     have e1 : ap1 x l1 = l1 := by unfold ap1; simp [HKK.out, HOP.out]
     have e2 : ap2 x l2 = l2 := by unfold ap2; simp [HKK.out, HOP.out]
     refine ⟨by rw [HE.out]; rfl, fun _ => by rw [e0, e1, e2]; exact T5.out.1, Nat.le_trans B2.out.hb.size T5.out.2.size, M0, .inl rfl, World.grownBy.andThen (but_of_below B2.out.hb _) T5.out.2 (fun j hj => .inr hj)⟩
   ·have HIE : Aside0 (x.f3.f0 = chID x) := ⟨by unfold chID; simp [hk]⟩; have hk1 : (x.f1 == 1) = false := by rw [hk]; rfl
    have hk2 : (x.f1 == 2) = true := by rw [hk]; rfl
    have HKK := aM hk; clear hk; go_enter Tryz.func31, Tryz.ntmps31
    go_wp2_with (first | (go_at_call 10; refine (HC.out _ 0 S2.out.hb (okC_check HO.out)).mono ?_; rintro e w1 ⟨rfl, hb1⟩; have B1 := aM (S2.out.below hb1); obtain ⟨ac0, ac1, ac2, ac3, ac4, ac5, ac6, ac7, ac8, ac9, ac10, ac11⟩ := B1.out.cellsC; obtain ⟨az0, az1, az2, az3, az4, az5, az6, az7, az8, az9, az10, az11⟩ := B1.out.frzC; obtain ⟨at0, at1, at2, at3, at4, at5⟩ := B1.out.cellsT) | (go_at_call 12; refine (HRF.out _ B1.out.hb HO.out).mono ?_; clear ac0 ac1 ac2 ac3 ac4 ac5 ac6 ac7 ac8 ac9 ac10 ac11 az0 az1 az2 az3 az4 az5 az6 az7 az8 az9 az10 az11 at0 at1 at2 at3 at4 at5; rintro e w2 ⟨rfl, hb2⟩; have B2 := aM ((B1.out.below hb2).below (W' := w2.alloc (.cells #[.int .i64 x.f1, .int .i64 (chID x)] 48)) (bA (Below.refl _ _) _)); obtain ⟨dc0, dc1, dc2, dc3, dc4, dc5, dc6, dc7, dc8, dc9, dc10, dc11⟩ := B2.out.cellsC; obtain ⟨dz0, dz1, dz2, dz3, dz4, dz5, dz6, dz7, dz8, dz9, dz10, dz11⟩ := B2.out.frzC; obtain ⟨dt0, dt1, dt2, dt3, dt4, dt5⟩ := B2.out.cellsT; obtain ⟨w', hrun, htb, hgr⟩ := B2.out.tb.put1 HN.out HW.out.2.1 (FW.out _ B2.out.hb); have hrun : (Instr.mapUpdate 71 (.map (some M1)) (.int .i64 (chID x)) (.agg #[.int .i64 x.f3.f0, .slice A7 x.f3.f1.length c7, .slice A8 x.f3.f2.length c8])).run Tryz.prog (w2.alloc (.cells #[.int .i64 x.f1, .int .i64 (chID x)] 48)) = .ok () w' := HIE.out ▸ hrun; have T5 := aM (And.intro htb hgr); clear htb hgr) | go_in)
    all_goals
     go_ret; have e0 : ap0 x l0 = l0 := by unfold ap0; simp [HKK.out, HOP.out]
     have e1 : ap1 x l1 = ins (fun y => y.f0) x.f3 l1 := by unfold ap1; simp [HKK.out, HOP.out]
     have e2 : ap2 x l2 = l2 := by unfold ap2; simp [HKK.out, HOP.out]
     refine ⟨by rw [HE.out]; rfl, fun _ => by rw [e0, e1, e2]; exact T5.out.1, Nat.le_trans B2.out.hb.size T5.out.2.size, M1, .inr (.inl rfl), World.grownBy.andThen (but_of_below B2.out.hb _) T5.out.2 (fun j hj => .inr hj)⟩
   ·have HIE : Aside0 (x.f4.f0 = chID x) := ⟨by unfold chID; simp [hk]⟩; have hk1 : (x.f1 == 1) = false := by rw [hk]; rfl
    have hk2 : (x.f1 == 2) = false := by rw [hk]; rfl
    have HKK := aM hk; clear hk; go_enter Tryz.func31, Tryz.ntmps31
    go_wp2_with (first | (go_at_call 10; refine (HC.out _ 0 S2.out.hb (okC_check HO.out)).mono ?_; rintro e w1 ⟨rfl, hb1⟩; have B1 := aM (S2.out.below hb1); obtain ⟨ac0, ac1, ac2, ac3, ac4, ac5, ac6, ac7, ac8, ac9, ac10, ac11⟩ := B1.out.cellsC; obtain ⟨az0, az1, az2, az3, az4, az5, az6, az7, az8, az9, az10, az11⟩ := B1.out.frzC; obtain ⟨at0, at1, at2, at3, at4, at5⟩ := B1.out.cellsT) | (go_at_call 12; refine (HRF.out _ B1.out.hb HO.out).mono ?_; clear ac0 ac1 ac2 ac3 ac4 ac5 ac6 ac7 ac8 ac9 ac10 ac11 az0 az1 az2 az3 az4 az5 az6 az7 az8 az9 az10 az11 at0 at1 at2 at3 at4 at5; rintro e w2 ⟨rfl, hb2⟩; have B2 := aM ((B1.out.below hb2).below (W' := w2.alloc (.cells #[.int .i64 x.f1, .int .i64 (chID x)] 48)) (bA (Below.refl _ _) _)); obtain ⟨dc0, dc1, dc2, dc3, dc4, dc5, dc6, dc7, dc8, dc9, dc10, dc11⟩ := B2.out.cellsC; obtain ⟨dz0, dz1, dz2, dz3, dz4, dz5, dz6, dz7, dz8, dz9, dz10, dz11⟩ := B2.out.frzC; obtain ⟨dt0, dt1, dt2, dt3, dt4, dt5⟩ := B2.out.cellsT; obtain ⟨w', hrun, htb, hgr⟩ := B2.out.tb.put2 HN.out HW.out.2.2 (FR.out _ B2.out.hb); have hrun : (Instr.mapUpdate 72 (.map (some M2)) (.int .i64 (chID x)) (.agg #[.int .i64 x.f4.f0, .slice A10 x.f4.f1.length c10, .slice A11 x.f4.f2.length c11])).run Tryz.prog (w2.alloc (.cells #[.int .i64 x.f1, .int .i64 (chID x)] 48)) = .ok () w' := HIE.out ▸ hrun; have T5 := aM (And.intro htb hgr); clear htb hgr) | go_in)
    all_goals
     go_ret; have e0 : ap0 x l0 = l0 := by unfold ap0; simp [HKK.out, HOP.out]
     have e1 : ap1 x l1 = l1 := by unfold ap1; simp [HKK.out, HOP.out]
     have e2 : ap2 x l2 = ins (fun y => y.f0) x.f4 l2 := by unfold ap2; simp [HKK.out, HOP.out]
     refine ⟨by rw [HE.out]; rfl, fun _ => by rw [e0, e1, e2]; exact T5.out.1, Nat.le_trans B2.out.hb.size T5.out.2.size, M2, .inr (.inr rfl), World.grownBy.andThen (but_of_below B2.out.hb _) T5.out.2 (fun j hj => .inr hj)⟩
  ·have ho2 : (x.f0 == 2) = true := by rw [ho]; rfl
   have HOP := aM ho; have HKK := aM hk; clear ho hk
   cases hh : hasT x.f1 (chID x) l0 l1 l2 with
   | false =>
    have HE : Aside0 (apE x l0 l1 l2 = 8) := ⟨by unfold apE; rw [HO.out]; simp [HOP.out, hh]⟩; go_enter Tryz.func31, Tryz.ntmps31
    go_wp2_with (first | (go_at_call 10; refine (HC.out _ 0 S2.out.hb (okC_check HO.out)).mono ?_; rintro e w1 ⟨rfl, hb1⟩; have B1 := aM (S2.out.below hb1); obtain ⟨ac0, ac1, ac2, ac3, ac4, ac5, ac6, ac7, ac8, ac9, ac10, ac11⟩ := B1.out.cellsC; obtain ⟨az0, az1, az2, az3, az4, az5, az6, az7, az8, az9, az10, az11⟩ := B1.out.frzC; obtain ⟨at0, at1, at2, at3, at4, at5⟩ := B1.out.cellsT) | (go_at_call 12; refine (HRF.out _ B1.out.hb HO.out).mono ?_; clear ac0 ac1 ac2 ac3 ac4 ac5 ac6 ac7 ac8 ac9 ac10 ac11 az0 az1 az2 az3 az4 az5 az6 az7 az8 az9 az10 az11 at0 at1 at2 at3 at4 at5; rintro e w2 ⟨rfl, hb2⟩; have B2 := aM ((B1.out.below hb2).below (W' := w2.alloc (.cells #[.int .i64 x.f1, .int .i64 (chID x)] 48)) (bA (Below.refl _ _) _)); obtain ⟨dc0, dc1, dc2, dc3, dc4, dc5, dc6, dc7, dc8, dc9, dc10, dc11⟩ := B2.out.cellsC; obtain ⟨dz0, dz1, dz2, dz3, dz4, dz5, dz6, dz7, dz8, dz9, dz10, dz11⟩ := B2.out.frzC; obtain ⟨dt0, dt1, dt2, dt3, dt4, dt5⟩ := B2.out.cellsT) | (go_at_call 53; refine (table_has.callsM x.f1 (chID x) _ B2.out.tb HID.out).mono ?_; clear dc0 dc1 dc2 dc3 dc4 dc5 dc6 dc7 dc8 dc9 dc10 dc11 dz0 dz1 dz2 dz3 dz4 dz5 dz6 dz7 dz8 dz9 dz10 dz11 dt0 dt1 dt2 dt3 dt4 dt5; rintro e w4 ⟨rfl, hb4⟩; have B4 := aM (B2.out.below hb4); obtain ⟨gc0, gc1, gc2, gc3, gc4, gc5, gc6, gc7, gc8, gc9, gc10, gc11⟩ := B4.out.cellsC; obtain ⟨gz0, gz1, gz2, gz3, gz4, gz5, gz6, gz7, gz8, gz9, gz10, gz11⟩ := B4.out.frzC; obtain ⟨gt0, gt1, gt2, gt3, gt4, gt5⟩ := B4.out.cellsT; have hr0 : w4.cell? ⟨w2.heap.size, 0, none⟩ = some (.int .i64 x.f1) := (kC (kB (blk_new w2 _) hb4) 0).trans rfl; have hr1 : w4.cell? ⟨w2.heap.size, 1, none⟩ = some (.int .i64 (chID x)) := (kC (kB (blk_new w2 _) hb4) 1).trans rfl) | go_in)
    all_goals
     go_ret; refine ⟨by rw [HE.out]; rfl, fun h0 => by rw [HE.out] at h0; simp at h0, B4.out.hb.size, M0, .inl rfl, but_of_below B4.out.hb _⟩
   | true =>
    have HE : Aside0 (apE x l0 l1 l2 = 0) := ⟨by unfold apE; rw [HO.out]; simp [HOP.out, hh]⟩; go_enter Tryz.func31, Tryz.ntmps31
    go_wp2_with (first | (go_at_call 10; refine (HC.out _ 0 S2.out.hb (okC_check HO.out)).mono ?_; rintro e w1 ⟨rfl, hb1⟩; have B1 := aM (S2.out.below hb1); obtain ⟨ac0, ac1, ac2, ac3, ac4, ac5, ac6, ac7, ac8, ac9, ac10, ac11⟩ := B1.out.cellsC; obtain ⟨az0, az1, az2, az3, az4, az5, az6, az7, az8, az9, az10, az11⟩ := B1.out.frzC; obtain ⟨at0, at1, at2, at3, at4, at5⟩ := B1.out.cellsT) | (go_at_call 12; refine (HRF.out _ B1.out.hb HO.out).mono ?_; clear ac0 ac1 ac2 ac3 ac4 ac5 ac6 ac7 ac8 ac9 ac10 ac11 az0 az1 az2 az3 az4 az5 az6 az7 az8 az9 az10 az11 at0 at1 at2 at3 at4 at5; rintro e w2 ⟨rfl, hb2⟩; have B2 := aM ((B1.out.below hb2).below (W' := w2.alloc (.cells #[.int .i64 x.f1, .int .i64 (chID x)] 48)) (bA (Below.refl _ _) _)); obtain ⟨dc0, dc1, dc2, dc3, dc4, dc5, dc6, dc7, dc8, dc9, dc10, dc11⟩ := B2.out.cellsC; obtain ⟨dz0, dz1, dz2, dz3, dz4, dz5, dz6, dz7, dz8, dz9, dz10, dz11⟩ := B2.out.frzC; obtain ⟨dt0, dt1, dt2, dt3, dt4, dt5⟩ := B2.out.cellsT) | (go_at_call 53; refine (table_has.callsM x.f1 (chID x) _ B2.out.tb HID.out).mono ?_; clear dc0 dc1 dc2 dc3 dc4 dc5 dc6 dc7 dc8 dc9 dc10 dc11 dz0 dz1 dz2 dz3 dz4 dz5 dz6 dz7 dz8 dz9 dz10 dz11 dt0 dt1 dt2 dt3 dt4 dt5; rintro e w4 ⟨rfl, hb4⟩; have B4 := aM (B2.out.below hb4); obtain ⟨gc0, gc1, gc2, gc3, gc4, gc5, gc6, gc7, gc8, gc9, gc10, gc11⟩ := B4.out.cellsC; obtain ⟨gz0, gz1, gz2, gz3, gz4, gz5, gz6, gz7, gz8, gz9, gz10, gz11⟩ := B4.out.frzC; obtain ⟨gt0, gt1, gt2, gt3, gt4, gt5⟩ := B4.out.cellsT; have hr0 : w4.cell? ⟨w2.heap.size, 0, none⟩ = some (.int .i64 x.f1) := (kC (kB (blk_new w2 _) hb4) 0).trans rfl; have hr1 : w4.cell? ⟨w2.heap.size, 1, none⟩ = some (.int .i64 (chID x)) := (kC (kB (blk_new w2 _) hb4) 1).trans rfl) | (go_at_call 54; refine (table_drop.callsM x.f1 (chID x) HKK.out _ B4.out.tb HID.out).mono ?_; clear gc0 gc1 gc2 gc3 gc4 gc5 gc6 gc7 gc8 gc9 gc10 gc11 gz0 gz1 gz2 gz3 gz4 gz5 gz6 gz7 gz8 gz9 gz10 gz11 gt0 gt1 gt2 gt3 gt4 gt5; rintro e w5 ⟨rfl, hs5, ht5, hg5⟩; have T5 := aM (And.intro hs5 (And.intro ht5 hg5)); clear hs5 ht5 hg5) | go_in)
    all_goals
     go_ret; have e0 : ap0 x l0 = if x.f1 = 1 then l0.filter (fun y => y.f0 != chID x) else l0 := by unfold ap0; simp [HOP.out]
     have e1 : ap1 x l1 = if x.f1 = 2 then l1.filter (fun y => y.f0 != chID x) else l1 := by unfold ap1; simp [HOP.out]
     have e2 : ap2 x l2 = if x.f1 = 3 then l2.filter (fun y => y.f0 != chID x) else l2 := by unfold ap2; simp [HOP.out]
     have ht := T5.out.2.1; refine ⟨by rw [HE.out]; rfl, fun _ => by rw [e0, e1, e2]; exact ⟨ht.h0.mono (by omega), ht.h1.mono (by omega), ht.h2.mono (by omega), ht.b0, ht.b1, ht.b2, ht.e0, ht.e1, ht.e2⟩, Nat.le_trans B4.out.hb.size T5.out.1, _, ?_, World.grownBy.andThen (but_of_below B4.out.hb _) T5.out.2.2 (fun j hj => .inr hj)⟩
     split
     ·exact .inl rfl
     ·split
      ·exact .inr (.inl rfl)
      ·exact .inr (.inr rfl)
section
open Go.Sort
structure HdN where
 a : Int
 b : Int
 c : Int
 A : Option Addr
 n : Nat
 m : Nat
structure HdW where
 a : Int
 A : Option Addr
 n : Nat
 m : Nat
 B : Option Addr
 p : Nat
 q : Nat
instance inhHdN : Inhabited HdN := ⟨⟨0, 0, 0, none, 0, 0⟩⟩
instance inhHdW : Inhabited HdW := ⟨⟨0, none, 0, 0, none, 0, 0⟩⟩
def encHdN (x : HdN) : List Value := [.int .i64 x.a, .int .i64 x.b, .int .i64 x.c, .slice x.A x.n x.m]
def encHdW (x : HdW) : List Value := [.int .i64 x.a, .slice x.A x.n x.m, .slice x.B x.p x.q]
theorem encHdN_one (x : HdN) : ∀ u ∈ encHdN x, u.oneCell' = true := by
 intro u hu; simp only [encHdN, List.mem_cons, List.not_mem_nil, or_false] at hu; rcases hu with rfl | rfl | rfl | rfl <;> rfl
theorem encHdW_one (x : HdW) : ∀ u ∈ encHdW x, u.oneCell' = true := by
 intro u hu; simp only [encHdW, List.mem_cons, List.not_mem_nil, or_false] at hu; rcases hu with rfl | rfl | rfl <;> rfl
def cmpInt (x y : Int) : Int := if x < y then -1 else if x > y then 1 else 0
theorem lt_id {α : Type} (id : α → Int) (x y : α) : ltOf (fun x y : α => cmpInt (id x) (id y)) x y = true ↔ id x < id y := by
 unfold ltOf cmpInt; rw [decide_eq_true_iff]; dsimp only
 (repeat' split) <;> omega
theorem swo_id {α : Type} (id : α → Int) : Go.Sort.SWO (ltOf (fun x y : α => cmpInt (id x) (id y))) where
 irrefl x := by rw [Bool.eq_false_iff]; intro h; rw [lt_id] at h; omega
 trans x y z h1 h2 := by rw [lt_id] at *; omega
 ntrans x y z h1 h2 := by
  rw [Bool.eq_false_iff] at *; intro h3; rw [Ne, lt_id] at h1 h2; rw [lt_id] at h3
  omega
set_option maxHeartbeats 4000000 in
set_option maxRecDepth 100000 in
theorem isNaN_int_eq (x : Int) (W : World) : Calls Tryz.prog 79 #[.int .i64 x] W fun e w' => e = .returned (.bool false) ∧ w' = W := by
 have h : (x != x) = false := by simp
 go_enter Tryz.func79, Tryz.ntmps79
 go_wp2
 all_goals
  go_ret; exact ⟨rfl, rfl⟩
set_option maxHeartbeats 4000000 in
set_option maxRecDepth 100000 in
theorem compare_int_eq (x y : Int) (W : World) : Calls Tryz.prog 57 #[.int .i64 x, .int .i64 y] W fun e w' => e = .returned (.int .i64 (cmpInt x y)) ∧ w' = W := by
 have H1 := aM (isNaN_int_eq x W); have H2 := aM (isNaN_int_eq y W); unfold cmpInt
 by_cases h1 : x < y
 ·rw [if_pos h1]; have hd : decide (x < y) = true := decide_eq_true h1; go_enter Tryz.func57, Tryz.ntmps57
  go_wp2_with (first | (go_at_call 79; first | (refine H1.out.mono ?_; rintro e w1 ⟨rfl, rfl⟩; clear H1) | (refine H2.out.mono ?_; rintro e w1 ⟨rfl, rfl⟩)) | go_in)
  all_goals
   go_ret; exact ⟨rfl, rfl⟩
 ·rw [if_neg h1]; have hd : decide (x < y) = false := decide_eq_false h1
  by_cases h2 : x > y
  ·rw [if_pos h2]; have hd2 : decide (x > y) = true := decide_eq_true h2; go_enter Tryz.func57, Tryz.ntmps57
   go_wp2_with (first | (go_at_call 79; first | (refine H1.out.mono ?_; rintro e w1 ⟨rfl, rfl⟩; clear H1) | (refine H2.out.mono ?_; rintro e w1 ⟨rfl, rfl⟩)) | go_in)
   all_goals
    go_ret; exact ⟨rfl, rfl⟩
  ·rw [if_neg h2]; have hd2 : decide (x > y) = false := decide_eq_false h2; go_enter Tryz.func57, Tryz.ntmps57
   go_wp2_with (first | (go_at_call 79; first | (refine H1.out.mono ?_; rintro e w1 ⟨rfl, rfl⟩; clear H1) | (refine H2.out.mono ?_; rintro e w1 ⟨rfl, rfl⟩)) | go_in)
   all_goals
    go_ret; exact ⟨rfl, rfl⟩
set_option maxHeartbeats 4000000 in
set_option maxRecDepth 100000 in
theorem closureBy56 (x y : HdN) (W : World) : Calls Tryz.prog 56 (#[.agg (encHdN x).toArray, .agg (encHdN y).toArray] ++ #[]) W fun e w' => e = .returned (.int .i64 (cmpInt x.a y.a)) ∧ ∃ q os', w' = Go.Sort.grow (W.drewN q) os' := by
 have hu37 := Tryz.underlying37
 show Calls Tryz.prog 56 #[.agg #[.int .i64 x.a, .int .i64 x.b, .int .i64 x.c, .slice x.A x.n x.m], .agg #[.int .i64 y.a, .int .i64 y.b, .int .i64 y.c, .slice y.A y.n y.m]] W _
 go_enter Tryz.func56, Tryz.ntmps56
 go_wp2_with (first | (go_at_call 57; refine (compare_int_eq x.a y.a _).mono ?_; rintro e w1 ⟨rfl, rfl⟩) | go_in)
 all_goals
  go_ret; exact ⟨rfl, 0, _, by simp only [Go.Sort.alloc_eq_grow, Go.Sort.grow_grow]; rfl⟩
set_option maxHeartbeats 4000000 in
set_option maxRecDepth 100000 in
theorem sort37 (W : World) (base : Nat) (ok : Nat → Prop) (u : Value) (hs : List HdN) (hR : (hdK encHdN 4 (fun _ => rfl) encHdN_one).R 37 W base ok u hs) (hsz : hs.length < 4611686018427387904) :
  Calls Tryz.prog 55 #[u, .func (.func 56) #[] #[]] W fun e w' => e = .returned (.tuple #[]) ∧ ∃ hs2 : List HdN, hs2.Perm hs ∧ hs2.Pairwise (fun x y => x.a ≤ y.a) ∧ (hdK encHdN 4 (fun _ => rfl) encHdN_one).R 37 w' base ok u hs2 ∧ W.grownBy w' u.ownBlock := by
 obtain ⟨A, c, rfl⟩ := Kd.R_slice hR; rcases Nat.eq_zero_or_pos hs.length with h0 | h0
 ·obtain rfl : hs = [] := List.eq_nil_of_length_eq_zero h0; refine (AnyF.slices_SortFunc_none { Tryz.laid55 with } A c (.func (.func 56) #[] #[]) W).mono ?_; rintro e w' ⟨rfl, rfl⟩; exact ⟨rfl, [], List.Perm.refl _, List.Pairwise.nil, hR, World.grownBy.refl _ _⟩
 ·obtain ⟨g, rfl⟩ := R_head hR h0; obtain ⟨hH, hblk⟩ := holds_of_R (d := hdK encHdN 4 (fun _ => rfl) encHdN_one) encHdN (fun _ => rfl) (by decide) (fun h => h) hR; have eg : ∀ args w, (callFunc 56 args).run Tryz.prog w = .ok (.enter 56 args) w := enters_of Tryz.func56 (by kernel_rfl) rfl; have hcon := AnyQ.slices_SortFunc_eq Tryz.laid55 4 Tryz.isAgg37 Tryz.sizeOf37 encHdN (fun _ => rfl) encHdN_one (fun x y => cmpInt x.a y.a) (swo_id (fun x : HdN => x.a)) 56 #[] g 0 c hs.toArray W eg (fun m os dk hs x y => closureBy56 x y _) hH hblk (by simpa using hsz); have e1 : hs.toArray.size = hs.length := by simp
  rw [e1] at hcon; refine hcon.mono ?_; rintro e w' ⟨rfl, n, os, rfl⟩; obtain ⟨⟨hs1, _, hp⟩, ho⟩ := Go.Sort.pdq_sorts (ltOf (fun x y : HdN => cmpInt x.a y.a)) (swo_id (fun x : HdN => x.a)) hs.toArray 0 hs.length (Lib.bitLen hs.length) true true (Nat.zero_le _) (by simp) (Or.inl rfl); have hR2 := fun hd => R_sortWorldK (d := hdK encHdN 4 (fun _ => rfl) encHdN_one) encHdN (fun _ => rfl) (by decide) (fun w base ok x => rfl) hR n (Go.Sort.pdq (ltOf (fun x y : HdN => cmpInt x.a y.a)) hs.toArray 0 hs.length (Lib.bitLen hs.length) true true) os hd
  have hg := grown_sortWorldK encHdN 4 W g n (Go.Sort.pdq (ltOf (fun x y : HdN => cmpInt x.a y.a)) hs.toArray 0 hs.length (Lib.bitLen hs.length) true true) os; generalize Go.Sort.pdq (ltOf (fun x y : HdN => cmpInt x.a y.a)) hs.toArray 0 hs.length (Lib.bitLen hs.length) true true = d at hs1 hp ho hR2 hg ⊢; have hsl : d.size = hs.length := by simpa using hs1
  refine ⟨rfl, d.toList, ?_, ?_, hR2 hsl, hg⟩
  ·have e1 : d.extract 0 hs.length = d := by rw [← hsl]; exact Array.extract_size
   have e2 : hs.toArray.extract 0 hs.length = hs.toArray := by
    have : hs.length = hs.toArray.size := by simp
    rw [this]; exact Array.extract_size
   rw [e1, e2] at hp; exact hp
  ·rw [List.pairwise_iff_getElem]; intro i j hi hj hij; have hj' : j < d.size := by simpa using hj
   have h1 := ho i j (Nat.zero_le _) hij (by omega); rw [getElem!_pos d j hj', getElem!_pos d i (by omega)] at h1; have h2 : ¬ d[j].a < d[i].a := fun h3 => by rw [(lt_id (fun x : HdN => x.a) d[j] d[i]).2 h3] at h1; cases h1
   simp only [Array.getElem_toList]
   omega
set_option maxHeartbeats 4000000 in
set_option maxRecDepth 100000 in
theorem closureBy59 (x y : HdW) (W : World) : Calls Tryz.prog 59 (#[.agg (encHdW x).toArray, .agg (encHdW y).toArray] ++ #[]) W fun e w' => e = .returned (.int .i64 (cmpInt x.a y.a)) ∧ ∃ q os', w' = Go.Sort.grow (W.drewN q) os' := by
 have hu40 := Tryz.underlying40
 show Calls Tryz.prog 59 #[.agg #[.int .i64 x.a, .slice x.A x.n x.m, .slice x.B x.p x.q], .agg #[.int .i64 y.a, .slice y.A y.n y.m, .slice y.B y.p y.q]] W _
 go_enter Tryz.func59, Tryz.ntmps59
 go_wp2_with (first | (go_at_call 57; refine (compare_int_eq x.a y.a _).mono ?_; rintro e w1 ⟨rfl, rfl⟩) | go_in)
 all_goals
  go_ret; exact ⟨rfl, 0, _, by simp only [Go.Sort.alloc_eq_grow, Go.Sort.grow_grow]; rfl⟩
set_option maxHeartbeats 4000000 in
set_option maxRecDepth 100000 in
theorem sort40 (W : World) (base : Nat) (ok : Nat → Prop) (u : Value) (hs : List HdW) (hR : (hdK encHdW 3 (fun _ => rfl) encHdW_one).R 40 W base ok u hs) (hsz : hs.length < 4611686018427387904) :
  Calls Tryz.prog 58 #[u, .func (.func 59) #[] #[]] W fun e w' => e = .returned (.tuple #[]) ∧ ∃ hs2 : List HdW, hs2.Perm hs ∧ hs2.Pairwise (fun x y => x.a ≤ y.a) ∧ (hdK encHdW 3 (fun _ => rfl) encHdW_one).R 40 w' base ok u hs2 ∧ W.grownBy w' u.ownBlock := by
 obtain ⟨A, c, rfl⟩ := Kd.R_slice hR; rcases Nat.eq_zero_or_pos hs.length with h0 | h0
 ·obtain rfl : hs = [] := List.eq_nil_of_length_eq_zero h0; refine (AnyF.slices_SortFunc_none { Tryz.laid58 with } A c (.func (.func 59) #[] #[]) W).mono ?_; rintro e w' ⟨rfl, rfl⟩; exact ⟨rfl, [], List.Perm.refl _, List.Pairwise.nil, hR, World.grownBy.refl _ _⟩
 ·obtain ⟨g, rfl⟩ := R_head hR h0; obtain ⟨hH, hblk⟩ := holds_of_R (d := hdK encHdW 3 (fun _ => rfl) encHdW_one) encHdW (fun _ => rfl) (by decide) (fun h => h) hR; have eg : ∀ args w, (callFunc 59 args).run Tryz.prog w = .ok (.enter 59 args) w := enters_of Tryz.func59 (by kernel_rfl) rfl; have hcon := AnyQ.slices_SortFunc_eq Tryz.laid58 3 Tryz.isAgg40 Tryz.sizeOf40 encHdW (fun _ => rfl) encHdW_one (fun x y => cmpInt x.a y.a) (swo_id (fun x : HdW => x.a)) 59 #[] g 0 c hs.toArray W eg (fun m os dk hs x y => closureBy59 x y _) hH hblk (by simpa using hsz); have e1 : hs.toArray.size = hs.length := by simp
  rw [e1] at hcon; refine hcon.mono ?_; rintro e w' ⟨rfl, n, os, rfl⟩; obtain ⟨⟨hs1, _, hp⟩, ho⟩ := Go.Sort.pdq_sorts (ltOf (fun x y : HdW => cmpInt x.a y.a)) (swo_id (fun x : HdW => x.a)) hs.toArray 0 hs.length (Lib.bitLen hs.length) true true (Nat.zero_le _) (by simp) (Or.inl rfl); have hR2 := fun hd => R_sortWorldK (d := hdK encHdW 3 (fun _ => rfl) encHdW_one) encHdW (fun _ => rfl) (by decide) (fun w base ok x => rfl) hR n (Go.Sort.pdq (ltOf (fun x y : HdW => cmpInt x.a y.a)) hs.toArray 0 hs.length (Lib.bitLen hs.length) true true) os hd
  have hg := grown_sortWorldK encHdW 3 W g n (Go.Sort.pdq (ltOf (fun x y : HdW => cmpInt x.a y.a)) hs.toArray 0 hs.length (Lib.bitLen hs.length) true true) os; generalize Go.Sort.pdq (ltOf (fun x y : HdW => cmpInt x.a y.a)) hs.toArray 0 hs.length (Lib.bitLen hs.length) true true = d at hs1 hp ho hR2 hg ⊢; have hsl : d.size = hs.length := by simpa using hs1
  refine ⟨rfl, d.toList, ?_, ?_, hR2 hsl, hg⟩
  ·have e1 : d.extract 0 hs.length = d := by rw [← hsl]; exact Array.extract_size
   have e2 : hs.toArray.extract 0 hs.length = hs.toArray := by
    have : hs.length = hs.toArray.size := by simp
    rw [this]; exact Array.extract_size
   rw [e1, e2] at hp; exact hp
  ·rw [List.pairwise_iff_getElem]; intro i j hi hj hij; have hj' : j < d.size := by simpa using hj
   have h1 := ho i j (Nat.zero_le _) hij (by omega); rw [getElem!_pos d j hj', getElem!_pos d i (by omega)] at h1; have h2 : ¬ d[j].a < d[i].a := fun h3 => by rw [(lt_id (fun x : HdW => x.a) d[j] d[i]).2 h3] at h1; cases h1
   simp only [Array.getElem_toList]
   omega
set_option maxHeartbeats 4000000 in
set_option maxRecDepth 100000 in
theorem closureBy61 (x y : HdW) (W : World) : Calls Tryz.prog 61 (#[.agg (encHdW x).toArray, .agg (encHdW y).toArray] ++ #[]) W fun e w' => e = .returned (.int .i64 (cmpInt x.a y.a)) ∧ ∃ q os', w' = Go.Sort.grow (W.drewN q) os' := by
 have hu43 := Tryz.underlying43
 show Calls Tryz.prog 61 #[.agg #[.int .i64 x.a, .slice x.A x.n x.m, .slice x.B x.p x.q], .agg #[.int .i64 y.a, .slice y.A y.n y.m, .slice y.B y.p y.q]] W _
 go_enter Tryz.func61, Tryz.ntmps61
 go_wp2_with (first | (go_at_call 57; refine (compare_int_eq x.a y.a _).mono ?_; rintro e w1 ⟨rfl, rfl⟩) | go_in)
 all_goals
  go_ret; exact ⟨rfl, 0, _, by simp only [Go.Sort.alloc_eq_grow, Go.Sort.grow_grow]; rfl⟩
set_option maxHeartbeats 4000000 in
set_option maxRecDepth 100000 in
theorem sort43 (W : World) (base : Nat) (ok : Nat → Prop) (u : Value) (hs : List HdW) (hR : (hdK encHdW 3 (fun _ => rfl) encHdW_one).R 43 W base ok u hs) (hsz : hs.length < 4611686018427387904) :
  Calls Tryz.prog 60 #[u, .func (.func 61) #[] #[]] W fun e w' => e = .returned (.tuple #[]) ∧ ∃ hs2 : List HdW, hs2.Perm hs ∧ hs2.Pairwise (fun x y => x.a ≤ y.a) ∧ (hdK encHdW 3 (fun _ => rfl) encHdW_one).R 43 w' base ok u hs2 ∧ W.grownBy w' u.ownBlock := by
 obtain ⟨A, c, rfl⟩ := Kd.R_slice hR; rcases Nat.eq_zero_or_pos hs.length with h0 | h0
 ·obtain rfl : hs = [] := List.eq_nil_of_length_eq_zero h0; refine (AnyF.slices_SortFunc_none { Tryz.laid60 with } A c (.func (.func 61) #[] #[]) W).mono ?_; rintro e w' ⟨rfl, rfl⟩; exact ⟨rfl, [], List.Perm.refl _, List.Pairwise.nil, hR, World.grownBy.refl _ _⟩
 ·obtain ⟨g, rfl⟩ := R_head hR h0; obtain ⟨hH, hblk⟩ := holds_of_R (d := hdK encHdW 3 (fun _ => rfl) encHdW_one) encHdW (fun _ => rfl) (by decide) (fun h => h) hR; have eg : ∀ args w, (callFunc 61 args).run Tryz.prog w = .ok (.enter 61 args) w := enters_of Tryz.func61 (by kernel_rfl) rfl; have hcon := AnyQ.slices_SortFunc_eq Tryz.laid60 3 Tryz.isAgg43 Tryz.sizeOf43 encHdW (fun _ => rfl) encHdW_one (fun x y => cmpInt x.a y.a) (swo_id (fun x : HdW => x.a)) 61 #[] g 0 c hs.toArray W eg (fun m os dk hs x y => closureBy61 x y _) hH hblk (by simpa using hsz); have e1 : hs.toArray.size = hs.length := by simp
  rw [e1] at hcon; refine hcon.mono ?_; rintro e w' ⟨rfl, n, os, rfl⟩; obtain ⟨⟨hs1, _, hp⟩, ho⟩ := Go.Sort.pdq_sorts (ltOf (fun x y : HdW => cmpInt x.a y.a)) (swo_id (fun x : HdW => x.a)) hs.toArray 0 hs.length (Lib.bitLen hs.length) true true (Nat.zero_le _) (by simp) (Or.inl rfl); have hR2 := fun hd => R_sortWorldK (d := hdK encHdW 3 (fun _ => rfl) encHdW_one) encHdW (fun _ => rfl) (by decide) (fun w base ok x => rfl) hR n (Go.Sort.pdq (ltOf (fun x y : HdW => cmpInt x.a y.a)) hs.toArray 0 hs.length (Lib.bitLen hs.length) true true) os hd
  have hg := grown_sortWorldK encHdW 3 W g n (Go.Sort.pdq (ltOf (fun x y : HdW => cmpInt x.a y.a)) hs.toArray 0 hs.length (Lib.bitLen hs.length) true true) os; generalize Go.Sort.pdq (ltOf (fun x y : HdW => cmpInt x.a y.a)) hs.toArray 0 hs.length (Lib.bitLen hs.length) true true = d at hs1 hp ho hR2 hg ⊢; have hsl : d.size = hs.length := by simpa using hs1
  refine ⟨rfl, d.toList, ?_, ?_, hR2 hsl, hg⟩
  ·have e1 : d.extract 0 hs.length = d := by rw [← hsl]; exact Array.extract_size
   have e2 : hs.toArray.extract 0 hs.length = hs.toArray := by
    have : hs.length = hs.toArray.size := by simp
    rw [this]; exact Array.extract_size
   rw [e1, e2] at hp; exact hp
  ·rw [List.pairwise_iff_getElem]; intro i j hi hj hij; have hj' : j < d.size := by simpa using hj
   have h1 := ho i j (Nat.zero_le _) hij (by omega); rw [getElem!_pos d j hj', getElem!_pos d i (by omega)] at h1; have h2 : ¬ d[j].a < d[i].a := fun h3 => by rw [(lt_id (fun x : HdW => x.a) d[j] d[i]).2 h3] at h1; cases h1
   simp only [Array.getElem_toList]
   omega
end
theorem sub_len {α : Type} {id : α → Int} : ∀ {out l : List α}, out.Pairwise (fun x y => id x ≠ id y) → (∀ y ∈ out, y ∈ l) → out.length ≤ l.length
 | [], _, _, _ => by simp
 | x :: out, l, h, hs => by
  obtain ⟨s, t, rfl⟩ := List.append_of_mem (hs x (List.mem_cons_self ..))
  have h1 := List.pairwise_cons.1 h
  have := sub_len (l := s ++ t) h1.2 (fun y hy => by
   have h2 := hs y (List.mem_cons_of_mem _ hy)
   have h3 := h1.1 y hy
   simp only [List.mem_append, List.mem_cons] at h2 ⊢
   rcases h2 with h2 | rfl | h2
   ·exact .inl h2
   ·exact absurd rfl h3
   ·exact .inr h2)
  simp only [List.length_append, List.length_cons] at this ⊢
  omega
theorem Tab.grownR {W W' : World} {b M0 M1 M2 n : Nat} {ok0 ok1 ok2 : Nat → Prop} {l0 : List S37} {l1 : List S40} {l2 : List S43} (h : Tab W b M0 M1 M2 n ok0 ok1 ok2 l0 l1 l2) {row : Option Nat} (hg : W.grownBy W' row) (hr : ∀ k, row = some k → b ≤ k ∧ M2 < k) : Tab W' b M0 M1 M2 n ok0 ok1 ok2 l0 l1 l2 :=
 have b0 := h.b0; have b1 := h.b1; have b2 := h.b2
 ⟨h.h0.grown hg (fun e => by have := hr _ e.symm; omega) (fun k hk e => by have := hr _ e.symm; have := h.e0 k hk; omega), h.h1.grown hg (fun e => by have := hr _ e.symm; omega) (fun k hk e => by have := hr _ e.symm; have := h.e1 k hk; omega), h.h2.grown hg (fun e => by have := hr _ e.symm; omega) (fun k hk e => by have := hr _ e.symm; have := h.e2 k hk; omega), h.b0, h.b1, h.b2, h.e0, h.e1, h.e2⟩
theorem set_grown (W : World) (g j : Nat) (u : Value) : W.grownBy (W.setCell ⟨g, j, none⟩ u) (some g) := ⟨rfl, rfl, rfl, by simp [World.setCell], fun i hi hne => Below.heap_setCell W ⟨g, j, none⟩ u i (fun e => hne (by rw [e]))⟩
theorem none_grown {W W' : World} (h : Below W.heap.size W W') : W.grownBy W' none := ⟨h.os, h.tape, h.output, h.size, fun i hi _ => h.block i hi⟩
structure LsInv (w wr : World) (b M0 M1 M2 n S : Nat) (ok : Nat → Prop) (l0 : List S37) (l1 : List S40) (l2 : List S43) (KP : World → Prop) (v0 v1 v2 : Value) : Prop where
 hb : Below w.heap.size w wr
 ht : wr.heap[w.heap.size]? = some (.cells #[.map (some M0), .map (some M1), .map (some M2)] 74 (0, 0))
 hr : wr.heap[w.heap.size + 1]? = some (.cells #[.slice none 0 0, .slice none 0 0, .slice none 0 0] 26 (0, 0))
 hd : wr.heap[w.heap.size + 2]? = some (.cells #[v0, v1, v2] 26 (0, 0))
 tb : Tab wr b M0 M1 M2 n ok ok ok l0 l1 l2
 hM : M2 < w.heap.size
 hS : w.heap.size + 2 < S
 hw : S ≤ wr.heap.size
 kp : KP wr
 kk : ∀ W W' row, KP W → W.grownBy W' row → (∀ k, row = some k → k = w.heap.size + 2 ∨ S ≤ k) → KP W'
section
variable {w wr W' : World} {b M0 M1 M2 n S : Nat} {ok : Nat → Prop} {l0 : List S37} {l1 : List S40} {l2 : List S43} {KP : World → Prop} {v0 v1 v2 : Value}
theorem LsInv.lo (h : LsInv w wr b M0 M1 M2 n S ok l0 l1 l2 KP v0 v1 v2) : b ≤ w.heap.size := by have := h.tb.b0; have := h.tb.b1; have := h.tb.b2; have := h.hM; omega
theorem LsInv.step (h : LsInv w wr b M0 M1 M2 n S ok l0 l1 l2 KP v0 v1 v2) {row : Option Nat} (hg : wr.grownBy W' row) (hr : ∀ k, row = some k → S ≤ k) : LsInv w W' b M0 M1 M2 n S ok l0 l1 l2 KP v0 v1 v2 :=
 have hS := h.hS; have lo := h.lo; have hM := h.hM
 ⟨h.hb.grown hg h.hb.size (fun k hk => by have := hr k hk; omega), blk_grown h.ht hg (fun e => by have := hr _ e.symm; omega), blk_grown h.hr hg (fun e => by have := hr _ e.symm; omega), blk_grown h.hd hg (fun e => by have := hr _ e.symm; omega),
  h.tb.grownR hg (fun k hk => by have := hr k hk; omega), h.hM, h.hS, Nat.le_trans h.hw hg.size, h.kk _ _ _ h.kp hg (fun k hk => .inr (hr k hk)), h.kk⟩
theorem LsInv.stepR (h : LsInv w wr b M0 M1 M2 n S ok l0 l1 l2 KP v0 v1 v2) {row : Option Nat} (hg : wr.grownBy W' row) (hr : ∀ k, row = some k → w.heap.size + 2 < k) (hk : ∀ W W', KP W → W.grownBy W' row → KP W') : LsInv w W' b M0 M1 M2 n S ok l0 l1 l2 KP v0 v1 v2 :=
 have hS := h.hS; have lo := h.lo; have hM := h.hM
 ⟨h.hb.grown hg h.hb.size (fun k hk => by have := hr k hk; omega), blk_grown h.ht hg (fun e => by have := hr _ e.symm; omega), blk_grown h.hr hg (fun e => by have := hr _ e.symm; omega), blk_grown h.hd hg (fun e => by have := hr _ e.symm; omega),
  h.tb.grownR hg (fun k hk => by have := hr k hk; omega), h.hM, h.hS, Nat.le_trans h.hw hg.size, hk _ _ h.kp hg, h.kk⟩
theorem LsInv.below (h : LsInv w wr b M0 M1 M2 n S ok l0 l1 l2 KP v0 v1 v2) (hb : Below wr.heap.size wr W') : LsInv w W' b M0 M1 M2 n S ok l0 l1 l2 KP v0 v1 v2 := h.step (none_grown hb) (by simp)
theorem LsInv.alloc (h : LsInv w wr b M0 M1 M2 n S ok l0 l1 l2 KP v0 v1 v2) (o : Obj) : LsInv w (wr.alloc o) b M0 M1 M2 n S ok l0 l1 l2 KP v0 v1 v2 := h.below (bA (Below.refl _ _) o)
theorem LsInv.set (h : LsInv w wr b M0 M1 M2 n S ok l0 l1 l2 KP v0 v1 v2) (j : Nat) (u : Value) {u0 u1 u2 : Value} (e : #[v0, v1, v2].setIfInBounds j u = #[u0, u1, u2]) : LsInv w (wr.setCell ⟨w.heap.size + 2, j, none⟩ u) b M0 M1 M2 n S ok l0 l1 l2 KP u0 u1 u2 :=
 have hg := set_grown wr (w.heap.size + 2) j u; have hS := h.hS; have lo := h.lo; have hM := h.hM
 ⟨h.hb.grown hg h.hb.size (fun k hk => by cases hk; omega), blk_grown h.ht hg (by simp), blk_grown h.hr hg (by simp), kP h.hd j u e, h.tb.grownR hg (fun k hk => by cases hk; omega), h.hM, h.hS, Nat.le_trans h.hw hg.size, h.kk _ _ _ h.kp hg (fun k hk => by cases hk; exact .inl rfl), h.kk⟩
theorem LsInv.next (h : LsInv w wr b M0 M1 M2 n S ok l0 l1 l2 KP v0 v1 v2) {S' : Nat} {KP' : World → Prop} (h1 : S ≤ S') (h2 : S' ≤ wr.heap.size) (h3 : KP' wr) (h4 : ∀ W W' row, KP' W → W.grownBy W' row → (∀ k, row = some k → k = w.heap.size + 2 ∨ S' ≤ k) → KP' W') : LsInv w wr b M0 M1 M2 n S' ok l0 l1 l2 KP' v0 v1 v2 :=
 ⟨h.hb, h.ht, h.hr, h.hd, h.tb, h.hM, Nat.lt_of_lt_of_le h.hS h1, h2, h3, h4⟩
theorem LsInv.start (h : Tab w b M0 M1 M2 n ok ok ok l0 l1 l2) : LsInv w (((w.alloc (.cells #[.map (some M0), .map (some M1), .map (some M2)] 74)).alloc (.cells #[.slice none 0 0, .slice none 0 0, .slice none 0 0] 26)).alloc (.cells #[.slice none 0 0, .slice none 0 0, .slice none 0 0] 26)) b M0 M1 M2 n (w.heap.size + 3) ok l0 l1 l2 (fun _ => True) (.slice none 0 0) (.slice none 0 0) (.slice none 0 0) := by
 refine ⟨bA (bA (bA (Below.refl _ _) _) _) _, kA (kA (blk_new w _) _) _, ?_, ?_, ((h.alloc _).alloc _).alloc _, h.lt, by omega, by simp, trivial, fun _ _ _ _ _ _ => trivial⟩
 ·have h1 := blk_new (w.alloc (.cells #[.map (some M0), .map (some M1), .map (some M2)] 74)) (.cells #[.slice none 0 0, .slice none 0 0, .slice none 0 0] 26); have h2 := kA h1 (.cells #[.slice none 0 0, .slice none 0 0, .slice none 0 0] 26)
  simpa using h2
 ·have h1 := blk_new ((w.alloc (.cells #[.map (some M0), .map (some M1), .map (some M2)] 74)).alloc (.cells #[.slice none 0 0, .slice none 0 0, .slice none 0 0] 26)) (.cells #[.slice none 0 0, .slice none 0 0, .slice none 0 0] 26)
  simpa using h1
end
abbrev RowIn {α : Type} (d : Kd α) (e : Nat) (ok : Nat → Prop) (lo hi : Nat) (W : World) (v : Value) (xs : List α) : Prop := Kd.N d e W lo (fun k => (ok k ∨ lo ≤ k) ∧ k < hi) v xs
theorem RowIn.keep {α : Type} {d : Kd α} {e : Nat} {ok : Nat → Prop} {lo hi b : Nat} {W W' : World} {v : Value} {xs : List α} {row : Option Nat} (h : RowIn d e ok lo hi W v xs) (hb : ∀ k, ok k → k < b) (hg : W.grownBy W' row) (hr : ∀ k, row = some k → b ≤ k ∧ (k < lo ∨ hi ≤ k)) : RowIn d e ok lo hi W' v xs :=
 Kd.N_grown h hg (fun k hk e => by
  have h1 := hr k e.symm
  rcases hk.1 with h2 | h2
  ·have := hb k h2; omega
  ·omega)
theorem RowIn.own {α : Type} {d : Kd α} {e : Nat} {ok : Nat → Prop} {lo hi : Nat} {W : World} {v : Value} {xs : List α} (h : RowIn d e ok lo hi W v xs) {k : Nat} (hk : v.ownBlock = some k) : lo ≤ k ∧ k < hi := ⟨Kd.N_base h k hk, (h.1 k hk).2⟩
theorem h37 {w : World} {x : S37} {cs : List Value} (h : k37.K w x cs) : ∃ y : HdN, cs = encHdN y ∧ y.a = x.f0 := by
 obtain ⟨A3, c3, rfl, _, _⟩ := k37_open h; exact ⟨⟨x.f0, x.f1.f0, x.f1.f1, A3, x.f2.length, c3⟩, rfl, rfl⟩
theorem h40 {w : World} {x : S40} {cs : List Value} (h : k40.K w x cs) : ∃ y : HdW, cs = encHdW y ∧ y.a = x.f0 := by
 obtain ⟨A1, c1, A2, c2, rfl, _, _, _, _⟩ := k40_open h; exact ⟨⟨x.f0, A1, x.f1.length, c1, A2, x.f2.length, c2⟩, rfl, rfl⟩
theorem h43 {w : World} {x : S43} {cs : List Value} (h : k43.K w x cs) : ∃ y : HdW, cs = encHdW y ∧ y.a = x.f0 := by
 obtain ⟨A1, c1, A2, c2, rfl, _, _, _, _⟩ := k43_open h; exact ⟨⟨x.f0, A1, x.f1.length, c1, A2, x.f2.length, c2⟩, rfl, rfl⟩
theorem sorted37 {ok : Nat → Prop} {lo hi : Nat} {W : World} {v : Value} {out l : List S37} (h : RowIn k37 37 ok lo hi W v out) (hR : Rising (fun x : S37 => x.f0) l) (x1 : ∀ y ∈ out, y ∈ l) (x2 : ∀ x ∈ l, x ∈ out) (x3 : out.Pairwise (fun x y => x.f0 ≠ y.f0)) (hl : l.length ≤ 1000000) :
  Calls Tryz.prog 55 #[v, .func (.func 56) #[] #[]] W fun e w' => e = .returned (.tuple #[]) ∧ RowIn k37 37 ok lo hi w' v l ∧ W.grownBy w' v.ownBlock := by
 obtain ⟨hs, hlen, hmap, hR1, h0, hf⟩ := N_heads (d := k37) (id := fun x : S37 => x.f0) (hid := fun y : HdN => y.a) (enc := encHdN) (hl := fun _ => rfl) (h1 := encHdN_one) (fun hk => h37 hk) h; have hle := sub_len x3 x1; refine (sort37 W lo _ v hs hR1 (by omega)).mono ?_; rintro e w' ⟨rfl, hs2, hp, hs', hR2, hg⟩; exact ⟨rfl, N_sorted (d := k37) (id := fun x : S37 => x.f0) (hid := fun y : HdN => y.a) (enc := encHdN) (hl := fun _ => rfl) (h1 := encHdN_one) hR2 h0 hf (fun k hk hne => hg.block k hk hne) hmap hp hs' hR x1 x2 x3, hg⟩
theorem sorted40 {ok : Nat → Prop} {lo hi : Nat} {W : World} {v : Value} {out l : List S40} (h : RowIn k40 40 ok lo hi W v out) (hR : Rising (fun x : S40 => x.f0) l) (x1 : ∀ y ∈ out, y ∈ l) (x2 : ∀ x ∈ l, x ∈ out) (x3 : out.Pairwise (fun x y => x.f0 ≠ y.f0)) (hl : l.length ≤ 1000000) :
  Calls Tryz.prog 58 #[v, .func (.func 59) #[] #[]] W fun e w' => e = .returned (.tuple #[]) ∧ RowIn k40 40 ok lo hi w' v l ∧ W.grownBy w' v.ownBlock := by
 obtain ⟨hs, hlen, hmap, hR1, h0, hf⟩ := N_heads (d := k40) (id := fun x : S40 => x.f0) (hid := fun y : HdW => y.a) (enc := encHdW) (hl := fun _ => rfl) (h1 := encHdW_one) (fun hk => h40 hk) h; have hle := sub_len x3 x1; refine (sort40 W lo _ v hs hR1 (by omega)).mono ?_; rintro e w' ⟨rfl, hs2, hp, hs', hR2, hg⟩; exact ⟨rfl, N_sorted (d := k40) (id := fun x : S40 => x.f0) (hid := fun y : HdW => y.a) (enc := encHdW) (hl := fun _ => rfl) (h1 := encHdW_one) hR2 h0 hf (fun k hk hne => hg.block k hk hne) hmap hp hs' hR x1 x2 x3, hg⟩
theorem sorted43 {ok : Nat → Prop} {lo hi : Nat} {W : World} {v : Value} {out l : List S43} (h : RowIn k43 43 ok lo hi W v out) (hR : Rising (fun x : S43 => x.f0) l) (x1 : ∀ y ∈ out, y ∈ l) (x2 : ∀ x ∈ l, x ∈ out) (x3 : out.Pairwise (fun x y => x.f0 ≠ y.f0)) (hl : l.length ≤ 1000000) :
  Calls Tryz.prog 60 #[v, .func (.func 61) #[] #[]] W fun e w' => e = .returned (.tuple #[]) ∧ RowIn k43 43 ok lo hi w' v l ∧ W.grownBy w' v.ownBlock := by
 obtain ⟨hs, hlen, hmap, hR1, h0, hf⟩ := N_heads (d := k43) (id := fun x : S43 => x.f0) (hid := fun y : HdW => y.a) (enc := encHdW) (hl := fun _ => rfl) (h1 := encHdW_one) (fun hk => h43 hk) h; have hle := sub_len x3 x1; refine (sort43 W lo _ v hs hR1 (by omega)).mono ?_; rintro e w' ⟨rfl, hs2, hp, hs', hR2, hg⟩; exact ⟨rfl, N_sorted (d := k43) (id := fun x : S43 => x.f0) (hid := fun y : HdW => y.a) (enc := encHdW) (hl := fun _ => rfl) (h1 := encHdW_one) hR2 h0 hf (fun k hk hne => hg.block k hk hne) hmap hp hs' hR x1 x2 x3, hg⟩
set_option maxHeartbeats 8000000 in
set_option maxRecDepth 100000 in
theorem table_list.callsM {b M0 M1 M2 n : Nat} {ok : Nat → Prop} {l0 : List S37} {l1 : List S40} {l2 : List S43} (w : World) (tb : Tab w b M0 M1 M2 n ok ok ok l0 l1 l2) (hR : Rising (fun x : S37 => x.f0) l0 ∧ Rising (fun x : S40 => x.f0) l1 ∧ Rising (fun x : S43 => x.f0) l2) (hl : l0.length ≤ 1000000 ∧ l1.length ≤ 1000000 ∧ l2.length ≤ 1000000) :
  Calls Tryz.prog 32 #[.agg #[.map (some M0), .map (some M1), .map (some M2)]] w fun e w' => ∃ v0 v1 v2, e = .returned (.agg #[v0, v1, v2]) ∧ Kd.N k37 37 w' w.heap.size (fun k => ok k ∨ w.heap.size ≤ k) v0 l0 ∧ Kd.N k40 40 w' w.heap.size (fun k => ok k ∨ w.heap.size ≤ k) v1 l1 ∧ Kd.N k43 43 w' w.heap.size (fun k => ok k ∨ w.heap.size ≤ k) v2 l2 ∧ Below w.heap.size w w' := by
 have hu74 := Tryz.underlying74; have hu26 := Tryz.underlying26; have hu37 := Tryz.underlying37; have hu40 := Tryz.underlying40; have hu43 := Tryz.underlying43; have S0 := aM (LsInv.start tb); have HE : Aside0 (∀ k, ok k → k < b) := ⟨tb.e0⟩; have HR := aM hR; have HL := aM hl; clear hR hl tb; obtain ⟨w3, hw3⟩ : ∃ w3, w3 = ((w.alloc (.cells #[.map (some M0), .map (some M1), .map (some M2)] 74)).alloc (.cells #[.slice none 0 0, .slice none 0 0, .slice none 0 0] 26)).alloc (.cells #[.slice none 0 0, .slice none 0 0, .slice none 0 0] 26) := ⟨_, rfl⟩; have HW3 := aM hw3; rw [← hw3] at S0; have hs3 : w3.heap.size = w.heap.size + 3 := by rw [hw3]; simp
 obtain ⟨wa, ca, hra, ima, hga, hsa⟩ := S0.out.tb.h0.range tbKeyed Tryz.underlying70; have IV0 := aM (S0.out.step hga (by simp)); have IM0 := aM ima; have HSa := aM (show wa.heap.size = w.heap.size + 4 by omega); have HS3 := aM hs3; rw [hw3] at hra; clear hw3 ima hga hsa S0 hs3; go_enter Tryz.func32, Tryz.ntmps32
 go_wp2
 all_goals
  clear hra; obtain ⟨r0, hr0⟩ : ∃ r0, r0 = w.heap.size + 3 := ⟨_, rfl⟩; have HR0 := aM hr0; have RB0 := aM (show w.heap.size + 2 < r0 by omega); have IM := aM (show InMap Tryz.prog k37 (fun x => x.f0) wa M0 r0 n ok l0 [] ca by have := IM0.out; rwa [HS3.out, ← hr0] at this); rw [← hr0]; clear hr0 IM0; have IV := aM (IV0.out.next (S' := r0 + 1) (KP' := fun _ => True) (by have := HR0.out; omega) (by have := HR0.out; have := HSa.out; omega) trivial (fun _ _ _ _ _ _ => trivial)); have NN := aM (Kd.N_nil k37 37 wa (r0 + 1) (fun k => ok k ∨ r0 + 1 ≤ k)); clear IV0
  go_loopg [] ca (fun gg wr => ∃ (v : Value) (out : List S37) (cnt : Nat), cnt ≤ gg ∧ Aside0 (LsInv w wr b M0 M1 M2 n (r0 + 1) ok l0 l1 l2 (fun _ => True) v (.slice none 0 0) (.slice none 0 0)) ∧ Aside0 (Kd.N k37 37 wr (r0 + 1) (fun k => ok k ∨ r0 + 1 ≤ k) v out) ∧ Aside0 (InMap Tryz.prog k37 (fun x => x.f0) wr M0 r0 n ok l0 out cnt))
  case atStart => exact ⟨(.slice none 0 0), [], ca, Nat.le_refl _, IV, NN, IM⟩
  case round =>
   clear IV NN IM; obtain ⟨v0, out0, cnt, hcnt, IV, NN, IM⟩ := hrel; have hnx := IM.out.next tbKeyed Tryz.underlying3 (rising_one HR.out.1) (fun k hk => by have := HE.out k hk; have := IV.out.lo; have := IV.out.hS; omega) 0; rcases hnx with ⟨hrun, hall⟩ | ⟨x, cs, w1, cnt1, hxl, hf, hrun, im1, hlt, hg1, hs1, hen⟩
   case inr =>
    have hrS : w.heap.size + 2 < r0 := RB0.out; have IV1 := aM (IV.out.stepR hg1 (fun k hk => by cases hk; exact hrS) (fun W W' hk hg => trivial)); have NN1 := aM (Kd.N_grown NN.out hg1 (fun k hk e => by cases e; exact hk.elim (fun h => by have := HE.out _ h; have := IV.out.lo; omega) (fun h => by omega))); obtain ⟨A3, c3, rfl, _, _⟩ := k37_openF hf; have HF := aM hf; have HLEN := aM (show out0.length ≤ 1000000 from Nat.le_trans (sub_len IM.out.has.2 IM.out.has.1) HL.out.1); have IM1 := aM im1; have HLT := aM hlt; clear hf im1 hlt IM IV NN hg1 hs1 hrS; have IVx := aM (IV1.out.alloc (.cells #[.int .i64 x.f0, .int .i64 x.f1.f0, .int .i64 x.f1.f1, .slice A3 x.f2.length c3] 37)); have hcd : (w1.alloc (.cells #[.int .i64 x.f0, .int .i64 x.f1.f0, .int .i64 x.f1.f1, .slice A3 x.f2.length c3] 37)).cell? ⟨w.heap.size + 2, 0, none⟩ = some v0 := (kC IVx.out.hd 0).trans rfl; have hfd := kF IVx.out.hd 0; have HSZ : Aside0 ((w1.alloc (.cells #[.int .i64 x.f0, .int .i64 x.f1.f0, .int .i64 x.f1.f1, .slice A3 x.f2.length c3] 37)).heap.size = w1.heap.size + 1) := ⟨by simp⟩
    go_wp2_with (first | ((with_reducible refine gate_builtin (b := .append) (xs := #[.tmp 18, .tmp 20]) rfl ?_); at_builtin; refine Kd.N_append k37 (w0 := w1) (W := (w1.alloc (.cells #[.int .i64 x.f0, .int .i64 x.f1.f0, .int .i64 x.f1.f1, .slice A3 x.f2.length c3] 37))) (r0 + 1) rfl (.tmp 18) (.tmp 20) 22 37 _ _ rfl Tryz.underlying22 info37 rfl (by decide) (by decide) v0 _ x _ _ ok rfl (by rw [HSZ.out]; rfl) (Kd.FK_below HF.out (bA (Below.refl _ _) _)) ?hok ?hfr (Kd.N_below NN1.out (bA (Below.refl _ _) _)) ((Below.refl (r0 + 1) w1).alloc (by have := IV1.out.hw; omega) _) ?hbs ?hln ?_; (case hok => exact fun k hk => ⟨.inl hk, fun e => by have := Kd.N_base NN1.out k e.symm; have := HE.out _ hk; have := IV1.out.lo; have := IV1.out.hS; omega⟩); (case hfr => exact (fun k hk => .inr (by have := IVx.out.hw; omega))); (case hbs => have := IVx.out.hw; omega); (case hln => have := HLEN.out; omega); intro vn w2 ho2 hb2 hg2 _; obtain ⟨An, cn, rfl⟩ := Kd.N_slice ho2; have hln_ : (out0 ++ [x]).length = out0.length + 1 := (by simp); rw [hln_] at ho2; clear hln_; have IV2 := aM (IVx.out.step hg2 (fun k hk => by have := Kd.N_base NN1.out k hk; omega)); have NN2 := aM ho2; have IM2 := aM ((IM1.out.below (bA (Below.refl _ _) _)).grown hg2 (fun e => by have := Kd.N_base NN1.out _ e.symm; have := IV1.out.lo; have := IV1.out.hS; have := IV1.out.hM; have := IV1.out.tb.b1; have := IV1.out.tb.b2; omega) (fun e => by have := Kd.N_base NN1.out _ e.symm; omega) (fun k hk e => by have := Kd.N_base NN1.out _ e.symm; have := HE.out _ hk; have := IV1.out.lo; have := IV1.out.hS; omega)); have hfd2 := kF IV2.out.hd 0; have hcd2 : w2.cell? ⟨w.heap.size + 2, 0, none⟩ = some v0 := (kC IV2.out.hd 0).trans rfl; clear ho2 hb2 hg2 hcd hfd) | go_in)
    go_roundg cnt1
    case measure => have := HLT.out; omega
    case rel =>
     have hg3 := set_grown w2 (w.heap.size + 1 + 1) 0 (.slice An (out0.length + 1) cn); exact ⟨_, _, cnt1, Nat.le_refl _, ⟨IV2.out.set 0 _ rfl⟩, ⟨Kd.N_grown NN2.out hg3 (fun k hk e => by cases e; have := IV2.out.hS; have := IV2.out.lo; exact hk.elim (fun h => by have := HE.out _ h; omega) (fun h => by omega))⟩, ⟨IM2.out.grown hg3 (fun e => by cases e; have := IV2.out.hM; have := IV2.out.tb.b1; have := IV2.out.tb.b2; omega) (fun e => by cases e; have := RB0.out; omega) (fun k hk e => by cases e; have := HE.out _ hk; have := IV2.out.lo; omega)⟩⟩
   case inl =>
    have OUT := aM (And.intro IM.out.has hall); obtain ⟨hi0, hhi0⟩ : ∃ hi, hi = wr.heap.size := ⟨_, rfl⟩; have NB := aM (show RowIn k37 37 ok (r0 + 1) hi0 wr v0 out0 from Kd.N_mono (Kd.N_bound NN.out) (fun k hk => by rw [hhi0]; exact hk)); clear hall NN IM; have hct : wr.cell? ⟨w.heap.size, 1, none⟩ = some (.map (some M1)) := (kC IV.out.ht 1).trans rfl; have hft := kF IV.out.ht 1; obtain ⟨wq1, cq1, hrq, imq, hgq, hsq⟩ := IV.out.tb.h1.range tbKeyed Tryz.underlying71; obtain ⟨r1, hr1⟩ : ∃ r, r = wr.heap.size := ⟨_, rfl⟩; obtain ⟨lo0, hlo0⟩ : ∃ lo, lo = r0 + 1 := ⟨_, rfl⟩; have KE : ∀ W W' row, RowIn k37 37 ok lo0 hi0 W v0 out0 → W.grownBy W' row → (∀ k, row = some k → k = w.heap.size + 2 ∨ hi0 ≤ k) → RowIn k37 37 ok lo0 hi0 W' v0 out0 := by
     intro W W' row h hg hr; have := IV.out.lo; have := IV.out.hS; have := IV.out.hw; exact h.keep HE.out hg (fun k hk => by have := hr k hk; omega)
    have IVn := aM ((IV.out.step hgq (by simp)).next (S' := r1 + 1) (KP' := (fun W => RowIn k37 37 ok lo0 hi0 W v0 out0)) (by have := IV.out.hw; omega) (by omega) (show RowIn k37 37 ok lo0 hi0 wq1 v0 out0 from by rw [hlo0]; exact NB.out.keep HE.out hgq (by simp)) (fun W W' row h hg hr => KE W W' row h hg (fun k hk => by have := hr k hk; omega))); have KR1 : Aside0 (∀ W W' : World, (fun W => RowIn k37 37 ok lo0 hi0 W v0 out0) W → W.grownBy W' (some r1) → (fun W => RowIn k37 37 ok lo0 hi0 W v0 out0) W') := ⟨fun W W' h hg => KE W W' _ h hg (fun k hk => by cases hk; right; omega)⟩; have RB1 := aM (show w.heap.size + 2 < r1 by have := IV.out.hS; have := IV.out.hw; omega); have HI0 := aM (show w.heap.size + 2 < lo0 ∧ hi0 ≤ r1 by have := IV.out.hS; omega); have IMn := aM (show InMap Tryz.prog k40 (fun x => x.f0) wq1 M1 r1 n ok l1 [] cq1 by rw [hr1]; exact imq); have OUT0 := OUT; clear OUT NB KE hgq imq hsq hhi0 hlo0; rw [← hr1] at hrq; clear hr1
    go_wp2
    clear hrq hct hft hrun IV; have IV := IVn; have IM := IMn; have NN := aM (Kd.N_nil k40 40 wq1 (r1 + 1) (fun k => ok k ∨ r1 + 1 ≤ k)); clear IVn IMn
    go_loopg [] cq1 (fun gg wr => ∃ (v : Value) (out : List S40) (cnt : Nat), cnt ≤ gg ∧ Aside0 (LsInv w wr b M0 M1 M2 n (r1 + 1) ok l0 l1 l2 (fun W => RowIn k37 37 ok lo0 hi0 W v0 out0) v0 v (.slice none 0 0)) ∧ Aside0 (Kd.N k40 40 wr (r1 + 1) (fun k => ok k ∨ r1 + 1 ≤ k) v out) ∧ Aside0 (InMap Tryz.prog k40 (fun x => x.f0) wr M1 r1 n ok l1 out cnt))
    case atStart => exact ⟨(.slice none 0 0), [], cq1, Nat.le_refl _, IV, NN, IM⟩
    case round =>
     clear IV NN IM; obtain ⟨v1, out1, cnt, hcnt, IV, NN, IM⟩ := hrel; have hnx := IM.out.next tbKeyed Tryz.underlying3 (rising_one HR.out.2.1) (fun k hk => by have := HE.out k hk; have := IV.out.lo; have := IV.out.hS; omega) 0; rcases hnx with ⟨hrun, hall⟩ | ⟨x, cs, w1, cnt1, hxl, hf, hrun, im1, hlt, hg1, hs1, hen⟩
     case inr =>
      have hrS : w.heap.size + 2 < r1 := RB1.out; have IV1 := aM (IV.out.stepR hg1 (fun k hk => by cases hk; exact hrS) (fun W W' hk hg => KR1.out W W' hk hg)); have NN1 := aM (Kd.N_grown NN.out hg1 (fun k hk e => by cases e; exact hk.elim (fun h => by have := HE.out _ h; have := IV.out.lo; omega) (fun h => by omega))); obtain ⟨A1, c1, A2, c2, rfl, _, _, _, _⟩ := k40_openF hf; have HF := aM hf; have HLEN := aM (show out1.length ≤ 1000000 from Nat.le_trans (sub_len IM.out.has.2 IM.out.has.1) HL.out.2.1); have IM1 := aM im1; have HLT := aM hlt; clear hf im1 hlt IM IV NN hg1 hs1 hrS; have IVx := aM (IV1.out.alloc (.cells #[.int .i64 x.f0, .slice A1 x.f1.length c1, .slice A2 x.f2.length c2] 40)); have hcd : (w1.alloc (.cells #[.int .i64 x.f0, .slice A1 x.f1.length c1, .slice A2 x.f2.length c2] 40)).cell? ⟨w.heap.size + 2, 1, none⟩ = some v1 := (kC IVx.out.hd 1).trans rfl; have hfd := kF IVx.out.hd 1; have HSZ : Aside0 ((w1.alloc (.cells #[.int .i64 x.f0, .slice A1 x.f1.length c1, .slice A2 x.f2.length c2] 40)).heap.size = w1.heap.size + 1) := ⟨by simp⟩
      go_wp2_with (first | ((with_reducible refine gate_builtin (b := .append) (xs := #[.tmp 31, .tmp 33]) rfl ?_); at_builtin; refine Kd.N_append k40 (w0 := w1) (W := (w1.alloc (.cells #[.int .i64 x.f0, .slice A1 x.f1.length c1, .slice A2 x.f2.length c2] 40))) (r1 + 1) rfl (.tmp 31) (.tmp 33) 23 40 _ _ rfl Tryz.underlying23 info40 rfl (by decide) (by decide) v1 _ x _ _ ok rfl (by rw [HSZ.out]; rfl) (Kd.FK_below HF.out (bA (Below.refl _ _) _)) ?hok ?hfr (Kd.N_below NN1.out (bA (Below.refl _ _) _)) ((Below.refl (r1 + 1) w1).alloc (by have := IV1.out.hw; omega) _) ?hbs ?hln ?_; (case hok => exact fun k hk => ⟨.inl hk, fun e => by have := Kd.N_base NN1.out k e.symm; have := HE.out _ hk; have := IV1.out.lo; have := IV1.out.hS; omega⟩); (case hfr => exact (fun k hk => .inr (by have := IVx.out.hw; omega))); (case hbs => have := IVx.out.hw; omega); (case hln => have := HLEN.out; omega); intro vn w2 ho2 hb2 hg2 _; obtain ⟨An, cn, rfl⟩ := Kd.N_slice ho2; have hln_ : (out1 ++ [x]).length = out1.length + 1 := (by simp); rw [hln_] at ho2; clear hln_; have IV2 := aM (IVx.out.step hg2 (fun k hk => by have := Kd.N_base NN1.out k hk; omega)); have NN2 := aM ho2; have IM2 := aM ((IM1.out.below (bA (Below.refl _ _) _)).grown hg2 (fun e => by have := Kd.N_base NN1.out _ e.symm; have := IV1.out.lo; have := IV1.out.hS; have := IV1.out.hM; have := IV1.out.tb.b1; have := IV1.out.tb.b2; omega) (fun e => by have := Kd.N_base NN1.out _ e.symm; omega) (fun k hk e => by have := Kd.N_base NN1.out _ e.symm; have := HE.out _ hk; have := IV1.out.lo; have := IV1.out.hS; omega)); have hfd2 := kF IV2.out.hd 1; have hcd2 : w2.cell? ⟨w.heap.size + 2, 1, none⟩ = some v1 := (kC IV2.out.hd 1).trans rfl; clear ho2 hb2 hg2 hcd hfd) | go_in)
      go_roundg cnt1
      case measure => have := HLT.out; omega
      case rel =>
       have hg3 := set_grown w2 (w.heap.size + 1 + 1) 1 (.slice An (out1.length + 1) cn); exact ⟨_, _, cnt1, Nat.le_refl _, ⟨IV2.out.set 1 _ rfl⟩, ⟨Kd.N_grown NN2.out hg3 (fun k hk e => by cases e; have := IV2.out.hS; have := IV2.out.lo; exact hk.elim (fun h => by have := HE.out _ h; omega) (fun h => by omega))⟩, ⟨IM2.out.grown hg3 (fun e => by cases e; have := IV2.out.hM; have := IV2.out.tb.b1; have := IV2.out.tb.b2; omega) (fun e => by cases e; have := RB1.out; omega) (fun k hk e => by cases e; have := HE.out _ hk; have := IV2.out.lo; omega)⟩⟩
     case inl =>
      have OUT := aM (And.intro IM.out.has hall); obtain ⟨hi1, hhi1⟩ : ∃ hi, hi = wr.heap.size := ⟨_, rfl⟩; have NB := aM (show RowIn k40 40 ok (r1 + 1) hi1 wr v1 out1 from Kd.N_mono (Kd.N_bound NN.out) (fun k hk => by rw [hhi1]; exact hk)); clear hall NN IM; have hct : wr.cell? ⟨w.heap.size, 2, none⟩ = some (.map (some M2)) := (kC IV.out.ht 2).trans rfl; have hft := kF IV.out.ht 2; obtain ⟨wq2, cq2, hrq, imq, hgq, hsq⟩ := IV.out.tb.h2.range tbKeyed Tryz.underlying72; obtain ⟨r2, hr2⟩ : ∃ r, r = wr.heap.size := ⟨_, rfl⟩; obtain ⟨lo1, hlo1⟩ : ∃ lo, lo = r1 + 1 := ⟨_, rfl⟩; have hh0 := IV.out.hS; have hh1 := HI0.out; have KE : ∀ W W' row, RowIn k37 37 ok lo0 hi0 W v0 out0 ∧ RowIn k40 40 ok lo1 hi1 W v1 out1 → W.grownBy W' row → (∀ k, row = some k → k = w.heap.size + 2 ∨ hi1 ≤ k) → RowIn k37 37 ok lo0 hi0 W' v0 out0 ∧ RowIn k40 40 ok lo1 hi1 W' v1 out1 := by
       intro W W' row h hg hr; have := IV.out.lo; have := IV.out.hw; exact ⟨h.1.keep HE.out hg (fun k hk => by have := hr k hk; omega), h.2.keep HE.out hg (fun k hk => by have := hr k hk; omega)⟩
      have IVn := aM ((IV.out.step hgq (by simp)).next (S' := r2 + 1) (KP' := (fun W => RowIn k37 37 ok lo0 hi0 W v0 out0 ∧ RowIn k40 40 ok lo1 hi1 W v1 out1)) (by have := IV.out.hw; omega) (by omega) ⟨(IV.out.step hgq (by simp)).kp, (show RowIn k40 40 ok lo1 hi1 wq2 v1 out1 from by rw [hlo1]; exact NB.out.keep HE.out hgq (by simp))⟩ (fun W W' row h hg hr => KE W W' row h hg (fun k hk => by have := hr k hk; omega))); have KR2 : Aside0 (∀ W W' : World, (fun W => RowIn k37 37 ok lo0 hi0 W v0 out0 ∧ RowIn k40 40 ok lo1 hi1 W v1 out1) W → W.grownBy W' (some r2) → (fun W => RowIn k37 37 ok lo0 hi0 W v0 out0 ∧ RowIn k40 40 ok lo1 hi1 W v1 out1) W') := ⟨fun W W' h hg => KE W W' _ h hg (fun k hk => by cases hk; right; omega)⟩; have RB2 := aM (show w.heap.size + 2 < r2 by have := IV.out.hS; have := IV.out.hw; omega); have HI1 := aM (show r1 < lo1 ∧ hi1 ≤ r2 ∧ r1 < r2 by have := IV.out.hS; have := IV.out.hw; omega); have IMn := aM (show InMap Tryz.prog k43 (fun x => x.f0) wq2 M2 r2 n ok l2 [] cq2 by rw [hr2]; exact imq); have OUT1 := OUT; clear OUT NB KE hgq imq hsq hhi1 hlo1 hh0 hh1; rw [← hr2] at hrq; clear hr2
      go_wp2
      clear hrq hct hft hrun IV; have IV := IVn; have IM := IMn; have NN := aM (Kd.N_nil k43 43 wq2 (r2 + 1) (fun k => ok k ∨ r2 + 1 ≤ k)); clear IVn IMn
      go_loopg [] cq2 (fun gg wr => ∃ (v : Value) (out : List S43) (cnt : Nat), cnt ≤ gg ∧ Aside0 (LsInv w wr b M0 M1 M2 n (r2 + 1) ok l0 l1 l2 (fun W => RowIn k37 37 ok lo0 hi0 W v0 out0 ∧ RowIn k40 40 ok lo1 hi1 W v1 out1) v0 v1 v) ∧ Aside0 (Kd.N k43 43 wr (r2 + 1) (fun k => ok k ∨ r2 + 1 ≤ k) v out) ∧ Aside0 (InMap Tryz.prog k43 (fun x => x.f0) wr M2 r2 n ok l2 out cnt))
      case atStart => exact ⟨(.slice none 0 0), [], cq2, Nat.le_refl _, IV, NN, IM⟩
      case round =>
       clear IV NN IM; obtain ⟨v2, out2, cnt, hcnt, IV, NN, IM⟩ := hrel; have hnx := IM.out.next tbKeyed Tryz.underlying3 (rising_one HR.out.2.2) (fun k hk => by have := HE.out k hk; have := IV.out.lo; have := IV.out.hS; omega) 0; rcases hnx with ⟨hrun, hall⟩ | ⟨x, cs, w1, cnt1, hxl, hf, hrun, im1, hlt, hg1, hs1, hen⟩
       case inr =>
        have hrS : w.heap.size + 2 < r2 := RB2.out; have IV1 := aM (IV.out.stepR hg1 (fun k hk => by cases hk; exact hrS) (fun W W' hk hg => KR2.out W W' hk hg)); have NN1 := aM (Kd.N_grown NN.out hg1 (fun k hk e => by cases e; exact hk.elim (fun h => by have := HE.out _ h; have := IV.out.lo; omega) (fun h => by omega))); obtain ⟨A1, c1, A2, c2, rfl, _, _, _, _⟩ := k43_openF hf; have HF := aM hf; have HLEN := aM (show out2.length ≤ 1000000 from Nat.le_trans (sub_len IM.out.has.2 IM.out.has.1) HL.out.2.2); have IM1 := aM im1; have HLT := aM hlt; clear hf im1 hlt IM IV NN hg1 hs1 hrS; have IVx := aM (IV1.out.alloc (.cells #[.int .i64 x.f0, .slice A1 x.f1.length c1, .slice A2 x.f2.length c2] 43)); have hcd : (w1.alloc (.cells #[.int .i64 x.f0, .slice A1 x.f1.length c1, .slice A2 x.f2.length c2] 43)).cell? ⟨w.heap.size + 2, 2, none⟩ = some v2 := (kC IVx.out.hd 2).trans rfl; have hfd := kF IVx.out.hd 2; have HSZ : Aside0 ((w1.alloc (.cells #[.int .i64 x.f0, .slice A1 x.f1.length c1, .slice A2 x.f2.length c2] 43)).heap.size = w1.heap.size + 1) := ⟨by simp⟩
        go_wp2_with (first | ((with_reducible refine gate_builtin (b := .append) (xs := #[.tmp 44, .tmp 46]) rfl ?_); at_builtin; refine Kd.N_append k43 (w0 := w1) (W := (w1.alloc (.cells #[.int .i64 x.f0, .slice A1 x.f1.length c1, .slice A2 x.f2.length c2] 43))) (r2 + 1) rfl (.tmp 44) (.tmp 46) 24 43 _ _ rfl Tryz.underlying24 info43 rfl (by decide) (by decide) v2 _ x _ _ ok rfl (by rw [HSZ.out]; rfl) (Kd.FK_below HF.out (bA (Below.refl _ _) _)) ?hok ?hfr (Kd.N_below NN1.out (bA (Below.refl _ _) _)) ((Below.refl (r2 + 1) w1).alloc (by have := IV1.out.hw; omega) _) ?hbs ?hln ?_; (case hok => exact fun k hk => ⟨.inl hk, fun e => by have := Kd.N_base NN1.out k e.symm; have := HE.out _ hk; have := IV1.out.lo; have := IV1.out.hS; omega⟩); (case hfr => exact (fun k hk => .inr (by have := IVx.out.hw; omega))); (case hbs => have := IVx.out.hw; omega); (case hln => have := HLEN.out; omega); intro vn w2 ho2 hb2 hg2 _; obtain ⟨An, cn, rfl⟩ := Kd.N_slice ho2; have hln_ : (out2 ++ [x]).length = out2.length + 1 := (by simp); rw [hln_] at ho2; clear hln_; have IV2 := aM (IVx.out.step hg2 (fun k hk => by have := Kd.N_base NN1.out k hk; omega)); have NN2 := aM ho2; have IM2 := aM ((IM1.out.below (bA (Below.refl _ _) _)).grown hg2 (fun e => by have := Kd.N_base NN1.out _ e.symm; have := IV1.out.lo; have := IV1.out.hS; have := IV1.out.hM; have := IV1.out.tb.b1; have := IV1.out.tb.b2; omega) (fun e => by have := Kd.N_base NN1.out _ e.symm; omega) (fun k hk e => by have := Kd.N_base NN1.out _ e.symm; have := HE.out _ hk; have := IV1.out.lo; have := IV1.out.hS; omega)); have hfd2 := kF IV2.out.hd 2; have hcd2 : w2.cell? ⟨w.heap.size + 2, 2, none⟩ = some v2 := (kC IV2.out.hd 2).trans rfl; clear ho2 hb2 hg2 hcd hfd) | go_in)
        go_roundg cnt1
        case measure => have := HLT.out; omega
        case rel =>
         have hg3 := set_grown w2 (w.heap.size + 1 + 1) 2 (.slice An (out2.length + 1) cn); exact ⟨_, _, cnt1, Nat.le_refl _, ⟨IV2.out.set 2 _ rfl⟩, ⟨Kd.N_grown NN2.out hg3 (fun k hk e => by cases e; have := IV2.out.hS; have := IV2.out.lo; exact hk.elim (fun h => by have := HE.out _ h; omega) (fun h => by omega))⟩, ⟨IM2.out.grown hg3 (fun e => by cases e; have := IV2.out.hM; have := IV2.out.tb.b1; have := IV2.out.tb.b2; omega) (fun e => by cases e; have := RB2.out; omega) (fun k hk e => by cases e; have := HE.out _ hk; have := IV2.out.lo; omega)⟩⟩
       case inl =>
        have OUT := aM (And.intro IM.out.has hall); obtain ⟨hi2, hhi2⟩ : ∃ hi, hi = wr.heap.size := ⟨_, rfl⟩; have NB := aM (show RowIn k43 43 ok (r2 + 1) hi2 wr v2 out2 from Kd.N_mono (Kd.N_bound NN.out) (fun k hk => by rw [hhi2]; exact hk)); clear hall NN IM; obtain ⟨Aa, ca_, rfl⟩ := Kd.N_slice IV.out.kp.1; obtain ⟨Ab, cb_, rfl⟩ := Kd.N_slice IV.out.kp.2; obtain ⟨Ac, cc_, rfl⟩ := Kd.N_slice NB.out; have hcd0 : wr.cell? ⟨w.heap.size + 2, 0, none⟩ = some (.slice Aa out0.length ca_) := (kC IV.out.hd 0).trans rfl; have hfd0 := kF IV.out.hd 0; have HJ := aM (And.intro HI0.out (And.intro HI1.out (And.intro RB1.out (And.intro RB2.out (And.intro IV.out.hS IV.out.lo))))); have HBW := aM IV.out.hb; have HBD := aM (And.intro IV.out.hr IV.out.hd); have NA := aM IV.out.kp.1; have NC := aM IV.out.kp.2; have HHI := aM hhi2; clear hhi2
        go_wp2_with (first | (go_at_call 55; refine (sorted37 NA.out HR.out.1 OUT0.out.1.1 OUT0.out.2 OUT0.out.1.2 HL.out.1).mono ?_; rintro e wx ⟨rfl, hn, hg⟩; have NC_ := aM (NC.out.keep HE.out hg (fun k hk => by have := NA.out.own hk; have := HJ.out; omega)); have NB_ := aM (NB.out.keep HE.out hg (fun k hk => by have := NA.out.own hk; have := HJ.out; omega)); have NA_ := aM hn; have HBW_ := aM (HBW.out.grown hg HBW.out.size (fun k hk => by have := NA.out.own hk; have := HJ.out; omega)); have HBD_ := aM (And.intro (blk_grown HBD.out.1 hg (fun e => by have := NA.out.own e.symm; have := HJ.out; omega)) (blk_grown HBD.out.2 hg (fun e => by have := NA.out.own e.symm; have := HJ.out; omega))); clear hn hg NA NC NB HBW HBD hcd0 hfd0; have NA := NA_; have NC := NC_; have NB := NB_; have HBW := HBW_; have HBD := HBD_; clear NA_ NC_ NB_ HBW_ HBD_; have hcd0 : wx.cell? ⟨w.heap.size + 2, 1, none⟩ = some (.slice Ab out1.length cb_) := (kC HBD.out.2 1).trans rfl; have hfd0 := kF HBD.out.2 1) | (go_at_call 58; refine (sorted40 NC.out HR.out.2.1 OUT1.out.1.1 OUT1.out.2 OUT1.out.1.2 HL.out.2.1).mono ?_; rintro e wy ⟨rfl, hn, hg⟩; have NA_ := aM (NA.out.keep HE.out hg (fun k hk => by have := NC.out.own hk; have := HJ.out; omega)); have NB_ := aM (NB.out.keep HE.out hg (fun k hk => by have := NC.out.own hk; have := HJ.out; omega)); have NC_ := aM hn; have HBW_ := aM (HBW.out.grown hg HBW.out.size (fun k hk => by have := NC.out.own hk; have := HJ.out; omega)); have HBD_ := aM (And.intro (blk_grown HBD.out.1 hg (fun e => by have := NC.out.own e.symm; have := HJ.out; omega)) (blk_grown HBD.out.2 hg (fun e => by have := NC.out.own e.symm; have := HJ.out; omega))); clear hn hg NA NC NB HBW HBD hcd0 hfd0; have NA := NA_; have NC := NC_; have NB := NB_; have HBW := HBW_; have HBD := HBD_; clear NA_ NC_ NB_ HBW_ HBD_; have hcd0 : wy.cell? ⟨w.heap.size + 2, 2, none⟩ = some (.slice Ac out2.length cc_) := (kC HBD.out.2 2).trans rfl; have hfd0 := kF HBD.out.2 2) | (go_at_call 60; refine (sorted43 NB.out HR.out.2.2 OUT.out.1.1 OUT.out.2 OUT.out.1.2 HL.out.2.2).mono ?_; rintro e wz ⟨rfl, hn, hg⟩; have NA_ := aM (NA.out.keep HE.out hg (fun k hk => by have := NB.out.own hk; have := HJ.out; omega)); have NC_ := aM (NC.out.keep HE.out hg (fun k hk => by have := NB.out.own hk; have := HJ.out; omega)); have NB_ := aM hn; have HBW_ := aM (HBW.out.grown hg HBW.out.size (fun k hk => by have := NB.out.own hk; have := HJ.out; omega)); have HBD_ := aM (And.intro (blk_grown HBD.out.1 hg (fun e => by have := NB.out.own e.symm; have := HJ.out; omega)) (blk_grown HBD.out.2 hg (fun e => by have := NB.out.own e.symm; have := HJ.out; omega))); clear hn hg NA NC NB HBW HBD hcd0 hfd0; have NA := NA_; have NC := NC_; have NB := NB_; have HBW := HBW_; have HBD := HBD_; clear NA_ NC_ NB_ HBW_ HBD_; have hcd0 : wz.cell? ⟨w.heap.size + 2, 0, none⟩ = some (.slice Aa out0.length ca_) := (kC HBD.out.2 0).trans rfl; have hcd1 : wz.cell? ⟨w.heap.size + 2, 1, none⟩ = some (.slice Ab out1.length cb_) := (kC HBD.out.2 1).trans rfl; have hcd2 : wz.cell? ⟨w.heap.size + 2, 2, none⟩ = some (.slice Ac out2.length cc_) := (kC HBD.out.2 2).trans rfl; have hre0 : wz.cell? ⟨w.heap.size + 1, 0, none⟩ = some (.slice none 0 0) := (kC HBD.out.1 0).trans rfl; have hre1 : wz.cell? ⟨w.heap.size + 1, 1, none⟩ = some (.slice none 0 0) := (kC HBD.out.1 1).trans rfl; have hre2 : wz.cell? ⟨w.heap.size + 1, 2, none⟩ = some (.slice none 0 0) := (kC HBD.out.1 2).trans rfl; have hrz0 := kF HBD.out.1 0; have hrz1 := kF HBD.out.1 1; have hrz2 := kF HBD.out.1 2) | go_in)
        refine bodyPost_ret (results_cell_row rfl _ _ (w.heap.size + 1) 26 #[(.slice Aa out0.length ca_), (.slice Ab out1.length cb_), (.slice Ac out2.length cc_)] (0, 0) _ rfl (by refine kP (cs := #[(.slice Aa out0.length ca_), (.slice Ab out1.length cb_), .slice none 0 0]) ?_ 2 _ rfl; refine kP (cs := #[(.slice Aa out0.length ca_), .slice none 0 0, .slice none 0 0]) ?_ 1 _ rfl; refine kP (cs := #[.slice none 0 0, .slice none 0 0, .slice none 0 0]) ?_ 0 _ rfl; exact HBD.out.1) Tryz.underlying26 rfl (by kernel_rfl)) rfl ?_; have hj := HJ.out; have hge : w.heap.size ≤ w.heap.size + 1 := by omega
        refine ⟨_, _, _, rfl, ?_, ?_, ?_, bT (bT (bT HBW.out hge) hge) hge⟩
        ·exact Kd.N_mono (Kd.N_lower (((NA.out.keep HE.out (set_grown _ (w.heap.size + 1) 0 _) (fun k hk => by cases hk; omega)).keep HE.out (set_grown _ (w.heap.size + 1) 1 _) (fun k hk => by cases hk; omega)).keep HE.out (set_grown _ (w.heap.size + 1) 2 _) (fun k hk => by cases hk; omega)) (by omega)) (fun k hk => hk.1.elim .inl (fun h => .inr (by omega)))
        ·exact Kd.N_mono (Kd.N_lower (((NC.out.keep HE.out (set_grown _ (w.heap.size + 1) 0 _) (fun k hk => by cases hk; omega)).keep HE.out (set_grown _ (w.heap.size + 1) 1 _) (fun k hk => by cases hk; omega)).keep HE.out (set_grown _ (w.heap.size + 1) 2 _) (fun k hk => by cases hk; omega)) (by omega)) (fun k hk => hk.1.elim .inl (fun h => .inr (by omega)))
        ·exact Kd.N_mono (Kd.N_lower (((NB.out.keep HE.out (set_grown _ (w.heap.size + 1) 0 _) (fun k hk => by cases hk; omega)).keep HE.out (set_grown _ (w.heap.size + 1) 1 _) (fun k hk => by cases hk; omega)).keep HE.out (set_grown _ (w.heap.size + 1) 2 _) (fun k hk => by cases hk; omega)) (by omega)) (fun k hk => hk.1.elim .inl (fun h => .inr (by omega)))
def GD (l0 : List S37) (l1 : List S40) (l2 : List S43) : Bool := decide (l0.length ≤ 10000 ∧ l1.length ≤ 10000 ∧ l2.length ≤ 10000) && decide (Rising (fun x : S37 => x.f0) l0) && decide (Rising (fun x : S40 => x.f0) l1) && decide (Rising (fun x : S43 => x.f0) l2) && l0.all (fun x => (Lit.int .i64 x.f0).wf) && l1.all (fun x => (Lit.int .i64 x.f0).wf) && l2.all (fun x => (Lit.int .i64 x.f0).wf)
theorem GD_out {l0 : List S37} {l1 : List S40} {l2 : List S43} (h : GD l0 l1 l2 = true) : (l0.length ≤ 10000 ∧ l1.length ≤ 10000 ∧ l2.length ≤ 10000) ∧ (Rising (fun x : S37 => x.f0) l0 ∧ Rising (fun x : S40 => x.f0) l1 ∧ Rising (fun x : S43 => x.f0) l2) ∧ (∀ x ∈ l0, (Lit.int .i64 x.f0).wf = true) ∧ (∀ x ∈ l1, (Lit.int .i64 x.f0).wf = true) ∧ ∀ x ∈ l2, (Lit.int .i64 x.f0).wf = true := by
 unfold GD at h; simp only [Bool.and_eq_true, decide_eq_true_eq, List.all_eq_true] at h; obtain ⟨⟨⟨⟨⟨⟨h1, h2⟩, h3⟩, h4⟩, h5⟩, h6⟩, h7⟩ := h; exact ⟨h1, ⟨h2, h3, h4⟩, h5, h6, h7⟩
def GC (l : List S45) : Bool := l.all (fun x => (Lit.int .i64 x.f2.f0).wf && (Lit.int .i64 x.f3.f0).wf && (Lit.int .i64 x.f4.f0).wf)
def apAll : List S45 → List S37 → List S40 → List S43 → List S37 × List S40 × List S43 × Int
 | [], l0, l1, l2 => (l0, l1, l2, 0)
 | x :: xs, l0, l1, l2 => if apE x l0 l1 l2 = 0 then apAll xs (ap0 x l0) (ap1 x l1) (ap2 x l2) else ([], [], [], apE x l0 l1 l2)
def change_Apply.f (k : Nat) (l0_0 : List S37) (l0_1 : List S40) (l0_2 : List S43) (l1 : List S45) : Option (List S37 × List S40 × List S43 × Int) :=
 (data_Check.f k l0_0 l0_1 l0_2).bind fun e => if e = 0 then (if 10000 < l1.length then some ([], [], [], 5) else if (GD l0_0 l0_1 l0_2 && GC l1) = true then
  (if (apAll l1 l0_0 l0_1 l0_2).2.2.2 = 0 then (data_Check.f k (apAll l1 l0_0 l0_1 l0_2).1 (apAll l1 l0_0 l0_1 l0_2).2.1 (apAll l1 l0_0 l0_1 l0_2).2.2.1).bind fun e2 => (if e2 = 0 then some ((apAll l1 l0_0 l0_1 l0_2).1, (apAll l1 l0_0 l0_1 l0_2).2.1, (apAll l1 l0_0 l0_1 l0_2).2.2.1, 0) else some ([], [], [], e2)) else some ([], [], [], (apAll l1 l0_0 l0_1 l0_2).2.2.2)) else none) else some ([], [], [], e)
theorem change_Apply.mono : ∀ a0 a1 a2 a3 k, LeO (change_Apply.f k a0 a1 a2 a3) (change_Apply.f (k + 1) a0 a1 a2 a3) := fun a0 a1 a2 a3 k =>
 LeO.bind (data_Check.mono a0 a1 a2 k) (fun _ => LeO.ite (LeO.ite (LeO.refl _) (LeO.ite (LeO.ite (LeO.bind (data_Check.mono _ _ _ k) (fun _ => LeO.refl _)) (LeO.refl _)) (LeO.refl _))) (LeO.refl _))
theorem len_ins {α : Type} {id : α → Int} {x : α} {l : List α} : (ins id x l).length ≤ l.length + 1 := by
 unfold ins; rw [List.length_append, List.length_cons]
 suffices h : ∀ l : List α, (l.filter (fun y => decide (id y < id x))).length + (l.filter (fun y => decide (id x < id y))).length ≤ l.length by have := h l; omega
 intro l
 induction l with
 | nil => simp
 | cons y l ih =>
  simp only [List.filter_cons, List.length_cons]
  by_cases h1 : id y < id x
  ·rw [if_pos (by simpa using h1), if_neg (by simp; omega), List.length_cons]; omega
  ·rw [if_neg (by simpa using h1)]
   split
   ·rw [List.length_cons]; omega
   ·omega
theorem ap0_ok {x : S45} {l : List S37} (h : Rising (fun x : S37 => x.f0) l) : Rising (fun x : S37 => x.f0) (ap0 x l) ∧ (ap0 x l).length ≤ l.length + 1 := by
 unfold ap0
 split
 ·split
  ·exact ⟨h.filter _, Nat.le_succ_of_le (List.length_filter_le ..)⟩
  ·exact ⟨rising_ins h _, len_ins⟩
 ·exact ⟨h, Nat.le_succ _⟩
theorem ap1_ok {x : S45} {l : List S40} (h : Rising (fun x : S40 => x.f0) l) : Rising (fun x : S40 => x.f0) (ap1 x l) ∧ (ap1 x l).length ≤ l.length + 1 := by
 unfold ap1
 split
 ·split
  ·exact ⟨h.filter _, Nat.le_succ_of_le (List.length_filter_le ..)⟩
  ·exact ⟨rising_ins h _, len_ins⟩
 ·exact ⟨h, Nat.le_succ _⟩
theorem ap2_ok {x : S45} {l : List S43} (h : Rising (fun x : S43 => x.f0) l) : Rising (fun x : S43 => x.f0) (ap2 x l) ∧ (ap2 x l).length ≤ l.length + 1 := by
 unfold ap2
 split
 ·split
  ·exact ⟨h.filter _, Nat.le_succ_of_le (List.length_filter_le ..)⟩
  ·exact ⟨rising_ins h _, len_ins⟩
 ·exact ⟨h, Nat.le_succ _⟩
theorem Tab.one {W : World} {b M0 M1 M2 n : Nat} {ok0 ok1 ok2 ok : Nat → Prop} {l0 : List S37} {l1 : List S40} {l2 : List S43} (h : Tab W b M0 M1 M2 n ok0 ok1 ok2 l0 l1 l2) (h0 : ∀ k, ok0 k → ok k) (h1 : ∀ k, ok1 k → ok k) (h2 : ∀ k, ok2 k → ok k) (hb : ∀ k, ok k → k < b) : Tab W b M0 M1 M2 n ok ok ok l0 l1 l2 :=
 ⟨h.h0.wide h0, h.h1.wide h1, h.h2.wide h2, h.b0, h.b1, h.b2, hb, hb, hb⟩
structure AlInv (w wr : World) (b gt M0 M1 M2 n : Nat) (ok : Nat → Prop) (l0 : List S37) (l1 : List S40) (l2 : List S43) : Prop where
 hb : Below w.heap.size w wr
 hr : wr.heap[w.heap.size + 1]? = some (.cells #[.slice none 0 0, .slice none 0 0, .slice none 0 0] 26 (0, 0))
 ht : wr.heap[gt]? = some (.cells #[.map (some M0), .map (some M1), .map (some M2)] 74 (0, 0))
 tb : Tab wr b M0 M1 M2 n ok ok ok l0 l1 l2
 o1 : w.heap.size + 1 < b
 o2 : M2 < gt
 hk : ∀ k, ok k → k < w.heap.size
section
variable {w wr W' : World} {b gt M0 M1 M2 n : Nat} {ok : Nat → Prop} {l0 : List S37} {l1 : List S40} {l2 : List S43}
theorem AlInv.below (h : AlInv w wr b gt M0 M1 M2 n ok l0 l1 l2) (hb : Below wr.heap.size wr W') : AlInv w W' b gt M0 M1 M2 n ok l0 l1 l2 :=
 ⟨h.hb.trans (hb.mono h.hb.size), kB h.hr hb, kB h.ht hb, h.tb.below hb, h.o1, h.o2, h.hk⟩
theorem AlInv.alloc (h : AlInv w wr b gt M0 M1 M2 n ok l0 l1 l2) (o : Obj) : AlInv w (wr.alloc o) b gt M0 M1 M2 n ok l0 l1 l2 := h.below (bA (Below.refl _ _) o)
theorem AlInv.turn {M n' : Nat} {l0' : List S37} {l1' : List S40} {l2' : List S43} (h : AlInv w wr b gt M0 M1 M2 n ok l0 l1 l2) (hM : M = M0 ∨ M = M1 ∨ M = M2) (hg : wr.grownBy W' (some M)) (ht : Tab W' b M0 M1 M2 n' ok ok ok l0' l1' l2') : AlInv w W' b gt M0 M1 M2 n' ok l0' l1' l2' :=
 have a := h.tb.b0; have a1 := h.tb.b1; have a2 := h.tb.b2; have o1 := h.o1; have o2 := h.o2
 ⟨h.hb.grown hg h.hb.size (fun k hk => by cases hk; omega), blk_grown h.hr hg (by simp; omega), blk_grown h.ht hg (by simp; omega), ht, h.o1, h.o2, h.hk⟩
theorem AlInv.left (h : AlInv w wr b gt M0 M1 M2 n ok l0 l1 l2) {M : Nat} (hM : M = M0 ∨ M = M1 ∨ M = M2) (hg : wr.grownBy W' (some M)) : Below w.heap.size w W' ∧ W'.heap[w.heap.size + 1]? = some (.cells #[.slice none 0 0, .slice none 0 0, .slice none 0 0] 26 (0, 0)) :=
 have a := h.tb.b0; have a1 := h.tb.b1; have a2 := h.tb.b2; have o1 := h.o1; have o2 := h.o2
 ⟨h.hb.grown hg h.hb.size (fun k hk => by cases hk; omega), blk_grown h.hr hg (by simp; omega)⟩
end
theorem atV45 {w : World} {base : Nat} {ok : Nat → Prop} {A : Option Addr} {c : Nat} {xs : List S45} (h : Kd.V k45 45 w base ok (.slice A xs.length c) xs) (i : Nat) (hi : i < xs.length) : ∃ ad A5 c5 A7 c7 A8 c8 A10 c10 A11 c11, A = some ad ∧ w.cell? (ad.add (i * 12)) = some (.int .i64 xs[i].f0) ∧ w.cell? ⟨(ad.add (i * 12)).block, (ad.add (i * 12)).off + 1, none⟩ = some (.int .i64 xs[i].f1) ∧ w.cell? ⟨(ad.add (i * 12)).block, (ad.add (i * 12)).off + 2, none⟩ = some (.int .i64 xs[i].f2.f0) ∧ w.cell? ⟨(ad.add (i * 12)).block, (ad.add (i * 12)).off + 3, none⟩ = some (.int .i64 xs[i].f2.f1.f0) ∧ w.cell? ⟨(ad.add (i * 12)).block, (ad.add (i * 12)).off + 4, none⟩ = some (.int .i64 xs[i].f2.f1.f1) ∧ w.cell? ⟨(ad.add (i * 12)).block, (ad.add (i * 12)).off + 5, none⟩ = some (.slice A5 xs[i].f2.f2.length c5) ∧ w.cell? ⟨(ad.add (i * 12)).block, (ad.add (i * 12)).off + 6, none⟩ = some (.int .i64 xs[i].f3.f0) ∧ w.cell? ⟨(ad.add (i * 12)).block, (ad.add (i * 12)).off + 7, none⟩ = some (.slice A7 xs[i].f3.f1.length c7) ∧ w.cell? ⟨(ad.add (i * 12)).block, (ad.add (i * 12)).off + 8, none⟩ = some (.slice A8 xs[i].f3.f2.length c8) ∧ w.cell? ⟨(ad.add (i * 12)).block, (ad.add (i * 12)).off + 9, none⟩ = some (.int .i64 xs[i].f4.f0) ∧ w.cell? ⟨(ad.add (i * 12)).block, (ad.add (i * 12)).off + 10, none⟩ = some (.slice A10 xs[i].f4.f1.length c10) ∧ w.cell? ⟨(ad.add (i * 12)).block, (ad.add (i * 12)).off + 11, none⟩ = some (.slice A11 xs[i].f4.f2.length c11) ∧ Kd.FK k45 w ok xs[i] [.int .i64 xs[i].f0, .int .i64 xs[i].f1, .int .i64 xs[i].f2.f0, .int .i64 xs[i].f2.f1.f0, .int .i64 xs[i].f2.f1.f1, .slice A5 xs[i].f2.f2.length c5, .int .i64 xs[i].f3.f0, .slice A7 xs[i].f3.f1.length c7, .slice A8 xs[i].f3.f2.length c8, .int .i64 xs[i].f4.f0, .slice A10 xs[i].f4.f1.length c10, .slice A11 xs[i].f4.f2.length c11] := by
 obtain ⟨ad, hA, _⟩ := (Kd.V_reads' h).2.2.2.2 (by omega); subst hA; obtain ⟨cs, hcl, hf, hcc⟩ := Kd.V_get h z45 (i : Int) (by omega) (by omega); rw [Int.toNat_natCast, List.getD_eq_getElem?_getD, List.getElem?_eq_getElem hi] at hf; rw [Int.toNat_natCast] at hcc; obtain ⟨A5, c5, A7, c7, A8, c8, A10, c10, A11, c11, rfl, _⟩ := k45_open (Kd.FK_now hf); exact ⟨ad, A5, c5, A7, c7, A8, c8, A10, c10, A11, c11, rfl, hcc 0 _ rfl, (by rw [← add_field _ _ 1 (by omega)]; exact hcc 1 _ rfl), (by rw [← add_field _ _ 2 (by omega)]; exact hcc 2 _ rfl), (by rw [← add_field _ _ 3 (by omega)]; exact hcc 3 _ rfl), (by rw [← add_field _ _ 4 (by omega)]; exact hcc 4 _ rfl), (by rw [← add_field _ _ 5 (by omega)]; exact hcc 5 _ rfl), (by rw [← add_field _ _ 6 (by omega)]; exact hcc 6 _ rfl), (by rw [← add_field _ _ 7 (by omega)]; exact hcc 7 _ rfl), (by rw [← add_field _ _ 8 (by omega)]; exact hcc 8 _ rfl), (by rw [← add_field _ _ 9 (by omega)]; exact hcc 9 _ rfl), (by rw [← add_field _ _ 10 (by omega)]; exact hcc 10 _ rfl), (by rw [← add_field _ _ 11 (by omega)]; exact hcc 11 _ rfl), hf⟩
set_option maxHeartbeats 8000000 in
set_option maxRecDepth 100000 in
theorem change_Apply.calls (k : Nat) (P0_0 : Nat → Prop) (A0_0 : Option Addr) (c0_0 : Nat) (l0_0 : List S37) (P0_1 : Nat → Prop) (A0_1 : Option Addr) (c0_1 : Nat) (l0_1 : List S40) (P0_2 : Nat → Prop) (A0_2 : Option Addr) (c0_2 : Nat) (l0_2 : List S43) (P1_0 : Nat → Prop) (A1_0 : Option Addr) (c1_0 : Nat) (l1 : List S45) (r1 : List S37) (r2 : List S40) (r3 : List S43) (r4 : Int) (w : World)
  (hs0 : Kd.V k37 37 w w.heap.size P0_0 (.slice A0_0 l0_0.length c0_0) l0_0) (hs1 : Kd.V k40 40 w w.heap.size P0_1 (.slice A0_1 l0_1.length c0_1) l0_1) (hs2 : Kd.V k43 43 w w.heap.size P0_2 (.slice A0_2 l0_2.length c0_2) l0_2) (hs3 : Kd.V k45 45 w w.heap.size P1_0 (.slice A1_0 l1.length c1_0) l1) (h : change_Apply.f k l0_0 l0_1 l0_2 l1 = some (r1, r2, r3, r4)) :
  Calls Tryz.prog 14 #[.agg #[.slice A0_0 l0_0.length c0_0, .slice A0_1 l0_1.length c0_1, .slice A0_2 l0_2.length c0_2], .slice A1_0 l1.length c1_0] w fun e w' => ∃ v0 v1 v2, e = .returned (.tuple #[.agg #[v0, v1, v2], .int .i64 r4]) ∧ Kd.V k37 37 w' w.heap.size (fun k_ => ((P0_0 k_ ∨ (P0_1 k_ ∨ (P0_2 k_ ∨ P1_0 k_))) ∨ w.heap.size ≤ k_)) v0 r1 ∧ Kd.V k40 40 w' w.heap.size (fun k_ => ((P0_0 k_ ∨ (P0_1 k_ ∨ (P0_2 k_ ∨ P1_0 k_))) ∨ w.heap.size ≤ k_)) v1 r2 ∧ Kd.V k43 43 w' w.heap.size (fun k_ => ((P0_0 k_ ∨ (P0_1 k_ ∨ (P0_2 k_ ∨ P1_0 k_))) ∨ w.heap.size ≤ k_)) v2 r3 ∧ Below w.heap.size w w' := by
 have hu26 := Tryz.underlying26; have hu74 := Tryz.underlying74; have hu45 := Tryz.underlying45; have V0 := aM (Kd.V_bound hs0); have V1 := aM (Kd.V_bound hs1); have V2 := aM (Kd.V_bound hs2); have V3 := aM (Kd.V_bound hs3); clear hs0 hs1 hs2 hs3; have R0 := aM (Kd.V_reads' V0.out); have R1 := aM (Kd.V_reads' V1.out); have R2 := aM (Kd.V_reads' V2.out); have ZV : ∀ w' : World, ∀ okz : Nat → Prop, (Kd.V k37 37 w' w.heap.size okz (.slice none 0 0) [] ∧ Kd.V k40 40 w' w.heap.size okz (.slice none 0 0) [] ∧ Kd.V k43 43 w' w.heap.size okz (.slice none 0 0) []) := fun w' okz => ⟨Kd.V_nil _ _ _ _ _, Kd.V_nil _ _ _ _ _, Kd.V_nil _ _ _ _ _⟩
 have ZV := aM ZV; unfold change_Apply.f at h; obtain ⟨e0, he0, h⟩ := Option.bind_eq_some_iff.mp h; have HD := aM h; clear h; have HS2 : Aside0 (Below w.heap.size w ((w.alloc (.cells #[.slice A0_0 l0_0.length c0_0, .slice A0_1 l0_1.length c0_1, .slice A0_2 l0_2.length c0_2] 26)).alloc (.cells #[.slice none 0 0, .slice none 0 0, .slice none 0 0] 26)) ∧ ((w.alloc (.cells #[.slice A0_0 l0_0.length c0_0, .slice A0_1 l0_1.length c0_1, .slice A0_2 l0_2.length c0_2] 26)).alloc (.cells #[.slice none 0 0, .slice none 0 0, .slice none 0 0] 26)).heap[w.heap.size]? = some (.cells #[.slice A0_0 l0_0.length c0_0, .slice A0_1 l0_1.length c0_1, .slice A0_2 l0_2.length c0_2] 26 (0, 0)) ∧ ((w.alloc (.cells #[.slice A0_0 l0_0.length c0_0, .slice A0_1 l0_1.length c0_1, .slice A0_2 l0_2.length c0_2] 26)).alloc (.cells #[.slice none 0 0, .slice none 0 0, .slice none 0 0] 26)).heap[w.heap.size + 1]? = some (.cells #[.slice none 0 0, .slice none 0 0, .slice none 0 0] 26 (0, 0))) :=
  ⟨bA (bA (Below.refl _ _) _) _, kA (blk_new w _) _, by have h := blk_new (w.alloc (.cells #[.slice A0_0 l0_0.length c0_0, .slice A0_1 l0_1.length c0_1, .slice A0_2 l0_2.length c0_2] 26)) (.cells #[.slice none 0 0, .slice none 0 0, .slice none 0 0] 26); simpa using h⟩
 have HCK := aM (data_Check.calls k A0_0 c0_0 l0_0 A0_1 c0_1 l0_1 A0_2 c0_2 l0_2 e0 ((w.alloc (.cells #[.slice A0_0 l0_0.length c0_0, .slice A0_1 l0_1.length c0_1, .slice A0_2 l0_2.length c0_2] 26)).alloc (.cells #[.slice none 0 0, .slice none 0 0, .slice none 0 0] 26)) (Kd.C_below R0.out.2.2 HS2.out.1) R0.out.2.1 (Kd.C_below R1.out.2.2 HS2.out.1) R1.out.2.1 (Kd.C_below R2.out.2.2 HS2.out.1) R2.out.2.1 he0); clear he0
 by_cases ez : e0 = 0
 case neg =>
  have ez1 : (e0 == 0) = false := beq_eq_false_iff_ne.mpr ez; have ez2 : (e0 != 0) = true := bne_iff_ne.mpr ez; have HD2 := aM (show (([], [], [], e0) : List S37 × List S40 × List S43 × Int) = (r1, r2, r3, r4) by have h := HD.out; rw [if_neg ez] at h; exact Option.some.inj h); clear ez HD; go_enter Tryz.func14, Tryz.ntmps14
  go_wp2_with (first | (go_at_call 29; refine HCK.out.mono ?_; rintro e w1 ⟨rfl, hb1⟩; have B1 := aM (And.intro (HS2.out.1.trans (hb1.mono HS2.out.1.size)) (And.intro (kB HS2.out.2.1 hb1) (kB HS2.out.2.2 hb1))); clear hb1; have hd0 : w1.cell? ⟨w.heap.size, 0, none⟩ = some (.slice A0_0 l0_0.length c0_0) := (kC B1.out.2.1 0).trans rfl; have hr0 : w1.cell? ⟨w.heap.size + 1, 0, none⟩ = some (.slice none 0 0) := (kC B1.out.2.2 0).trans rfl; have hz0 := kF B1.out.2.2 0; have hd1 : w1.cell? ⟨w.heap.size, 1, none⟩ = some (.slice A0_1 l0_1.length c0_1) := (kC B1.out.2.1 1).trans rfl; have hr1 : w1.cell? ⟨w.heap.size + 1, 1, none⟩ = some (.slice none 0 0) := (kC B1.out.2.2 1).trans rfl; have hz1 := kF B1.out.2.2 1; have hd2 : w1.cell? ⟨w.heap.size, 2, none⟩ = some (.slice A0_2 l0_2.length c0_2) := (kC B1.out.2.1 2).trans rfl; have hr2 : w1.cell? ⟨w.heap.size + 1, 2, none⟩ = some (.slice none 0 0) := (kC B1.out.2.2 2).trans rfl; have hz2 := kF B1.out.2.2 2) | go_in)
  all_goals
   refine bodyPost_ret (results_ct rfl _ _ (w.heap.size + 1) 26 #[.slice none 0 0, .slice none 0 0, .slice none 0 0] (0, 0) _ rfl (by refine kP (cs := #[.slice none 0 0, .slice none 0 0, .slice none 0 0]) ?_ 2 _ rfl; refine kP (cs := #[.slice none 0 0, .slice none 0 0, .slice none 0 0]) ?_ 1 _ rfl; refine kP (cs := #[.slice none 0 0, .slice none 0 0, .slice none 0 0]) ?_ 0 _ rfl; exact B1.out.2.2) Tryz.underlying26 rfl (by kernel_rfl)) rfl ?_; have h := HD2.out; simp only [Prod.mk.injEq] at h; obtain ⟨rfl, rfl, rfl, rfl⟩ := h; have hge : w.heap.size ≤ w.heap.size + 1 := by omega
   exact ⟨_, _, _, rfl, (ZV.out _ _).1, (ZV.out _ _).2.1, (ZV.out _ _).2.2, bT (bT (bT B1.out.1 hge) hge) hge⟩
 case pos =>
 have ez1 : (e0 == 0) = true := beq_iff_eq.mpr ez; have ez2 : (e0 != 0) = false := bne_eq_false_iff_eq.mpr ez; have h := HD.out; rw [if_pos ez] at h; have HD := aM h; clear h ez
 by_cases hlen : 10000 < l1.length
 case pos =>
  have hln1 : decide ((l1.length : Int) > 10000) = true := decide_eq_true (by omega); have HD2 := aM (show (([], [], [], 5) : List S37 × List S40 × List S43 × Int) = (r1, r2, r3, r4) by have h := HD.out; rw [if_pos hlen] at h; exact Option.some.inj h); clear hlen HD; go_enter Tryz.func14, Tryz.ntmps14
  go_wp2_with (first | (go_at_call 29; refine HCK.out.mono ?_; rintro e w1 ⟨rfl, hb1⟩; have B1 := aM (And.intro (HS2.out.1.trans (hb1.mono HS2.out.1.size)) (And.intro (kB HS2.out.2.1 hb1) (kB HS2.out.2.2 hb1))); clear hb1; have hd0 : w1.cell? ⟨w.heap.size, 0, none⟩ = some (.slice A0_0 l0_0.length c0_0) := (kC B1.out.2.1 0).trans rfl; have hr0 : w1.cell? ⟨w.heap.size + 1, 0, none⟩ = some (.slice none 0 0) := (kC B1.out.2.2 0).trans rfl; have hz0 := kF B1.out.2.2 0; have hd1 : w1.cell? ⟨w.heap.size, 1, none⟩ = some (.slice A0_1 l0_1.length c0_1) := (kC B1.out.2.1 1).trans rfl; have hr1 : w1.cell? ⟨w.heap.size + 1, 1, none⟩ = some (.slice none 0 0) := (kC B1.out.2.2 1).trans rfl; have hz1 := kF B1.out.2.2 1; have hd2 : w1.cell? ⟨w.heap.size, 2, none⟩ = some (.slice A0_2 l0_2.length c0_2) := (kC B1.out.2.1 2).trans rfl; have hr2 : w1.cell? ⟨w.heap.size + 1, 2, none⟩ = some (.slice none 0 0) := (kC B1.out.2.2 2).trans rfl; have hz2 := kF B1.out.2.2 2) | go_in)
  all_goals
   refine bodyPost_ret (results_ct rfl _ _ (w.heap.size + 1) 26 #[.slice none 0 0, .slice none 0 0, .slice none 0 0] (0, 0) _ rfl (by refine kP (cs := #[.slice none 0 0, .slice none 0 0, .slice none 0 0]) ?_ 2 _ rfl; refine kP (cs := #[.slice none 0 0, .slice none 0 0, .slice none 0 0]) ?_ 1 _ rfl; refine kP (cs := #[.slice none 0 0, .slice none 0 0, .slice none 0 0]) ?_ 0 _ rfl; exact B1.out.2.2) Tryz.underlying26 rfl (by kernel_rfl)) rfl ?_; have h := HD2.out; simp only [Prod.mk.injEq] at h; obtain ⟨rfl, rfl, rfl, rfl⟩ := h; have hge : w.heap.size ≤ w.heap.size + 1 := by omega
   exact ⟨_, _, _, rfl, (ZV.out _ _).1, (ZV.out _ _).2.1, (ZV.out _ _).2.2, bT (bT (bT B1.out.1 hge) hge) hge⟩
 case neg =>
 have hln1 : decide ((l1.length : Int) > 10000) = false := decide_eq_false (by omega); have HLE := aM (show l1.length ≤ 10000 by omega); have h := HD.out; rw [if_neg hlen] at h; have HD := aM h; clear h hlen
 by_cases hgd : (GD l0_0 l0_1 l0_2 && GC l1) = true
 case neg =>
  have h := HD.out; rw [if_neg hgd] at h
  cases h
 case pos =>
 have h := HD.out; rw [if_pos hgd] at h; have HD := aM h; clear h; have HG := aM (GD_out (Bool.and_eq_true _ _ ▸ hgd).1); have HC : Aside0 (∀ x ∈ l1, (Lit.int .i64 x.f2.f0).wf = true ∧ (Lit.int .i64 x.f3.f0).wf = true ∧ (Lit.int .i64 x.f4.f0).wf = true) := ⟨fun x hx => by
  have h := (Bool.and_eq_true _ _ ▸ hgd).2; unfold GC at h; have h2 := List.all_eq_true.1 h x hx; simp only [Bool.and_eq_true] at h2; exact ⟨h2.1.1, h2.1.2, h2.2⟩⟩
 clear hgd; obtain ⟨res, hres⟩ : ∃ res, res = apAll l1 l0_0 l0_1 l0_2 := ⟨_, rfl⟩; have HD := aM (show (if res.2.2.2 = 0 then (data_Check.f k res.1 res.2.1 res.2.2.1).bind fun e2 => (if e2 = 0 then some (res.1, res.2.1, res.2.2.1, 0) else some ([], [], [], e2)) else some ([], [], [], res.2.2.2)) = some (r1, r2, r3, r4) by rw [hres]; exact HD.out); have HRES := aM hres.symm; clear hres; go_enter Tryz.func14, Tryz.ntmps14
 go_wp2_with (first | (go_at_call 29; refine HCK.out.mono ?_; rintro e w1 ⟨rfl, hb1⟩; have B1 := aM (And.intro (HS2.out.1.trans (hb1.mono HS2.out.1.size)) (And.intro (kB HS2.out.2.1 hb1) (kB HS2.out.2.2 hb1))); clear hb1; have hd0 : w1.cell? ⟨w.heap.size, 0, none⟩ = some (.slice A0_0 l0_0.length c0_0) := (kC B1.out.2.1 0).trans rfl; have hr0 : w1.cell? ⟨w.heap.size + 1, 0, none⟩ = some (.slice none 0 0) := (kC B1.out.2.2 0).trans rfl; have hz0 := kF B1.out.2.2 0; have hd1 : w1.cell? ⟨w.heap.size, 1, none⟩ = some (.slice A0_1 l0_1.length c0_1) := (kC B1.out.2.1 1).trans rfl; have hr1 : w1.cell? ⟨w.heap.size + 1, 1, none⟩ = some (.slice none 0 0) := (kC B1.out.2.2 1).trans rfl; have hz1 := kF B1.out.2.2 1; have hd2 : w1.cell? ⟨w.heap.size, 2, none⟩ = some (.slice A0_2 l0_2.length c0_2) := (kC B1.out.2.1 2).trans rfl; have hr2 : w1.cell? ⟨w.heap.size + 1, 2, none⟩ = some (.slice none 0 0) := (kC B1.out.2.2 2).trans rfl; have hz2 := kF B1.out.2.2 2) | (go_at_call 30; refine (change_load.callsM _ _ _ A0_0 c0_0 l0_0 A0_1 c0_1 l0_1 A0_2 c0_2 l0_2 w1 (Kd.V_below V0.out B1.out.1) (Kd.V_below V1.out B1.out.1) (Kd.V_below V2.out B1.out.1) HG.out.1 HG.out.2.1 HG.out.2.2).mono ?_; rintro e w2 ⟨M0, M1, M2, rfl, htb, hb2⟩; have hlo : w.heap.size + 1 < w1.heap.size := blk_lt B1.out.2.2; have A2 := aM (show AlInv w (w2.alloc (.cells #[.map (some M0), .map (some M1), .map (some M2)] 74)) w1.heap.size w2.heap.size M0 M1 M2 (l0_0.length + l0_1.length + l0_2.length) (fun k => (P0_0 k ∨ (P0_1 k ∨ (P0_2 k ∨ P1_0 k))) ∧ k < w.heap.size) l0_0 l0_1 l0_2 from ⟨bA (B1.out.1.trans (hb2.mono B1.out.1.size)) _, kA (kB B1.out.2.2 hb2) _, blk_new _ _, (htb.one (fun k hk => ⟨.inl hk.1.1, hk.1.2⟩) (fun k hk => ⟨.inr (.inl hk.1.1), hk.1.2⟩) (fun k hk => ⟨.inr (.inr (.inl hk.1.1)), hk.1.2⟩) (fun k hk => by have := hk.2; omega)).alloc _, hlo, htb.lt, fun k hk => hk.2⟩); clear htb hb2 hlo hd0 hd1 hd2 hr0 hr1 hr2 hz0 hz1 hz2) | go_in)
 all_goals
  obtain ⟨ok, hok⟩ : ∃ ok : Nat → Prop, ok = (fun k => (P0_0 k ∨ (P0_1 k ∨ (P0_2 k ∨ P1_0 k))) ∧ k < w.heap.size) := ⟨_, rfl⟩; obtain ⟨n0, hn0⟩ : ∃ n0, n0 = l0_0.length + l0_1.length + l0_2.length := ⟨_, rfl⟩; rw [← hok, ← hn0] at A2; have HN0 := aM (show n0 ≤ 30000 by have := HG.out.1; omega); have V3' := aM (show Kd.V k45 45 w w.heap.size ok (.slice A1_0 l1.length c1_0) l1 from Kd.V_mono V3.out (fun k hk => by rw [hok]; exact ⟨.inr (.inr (.inr hk.1)), hk.2⟩)); have HOK := aM hok; clear hok hn0 V3 B1; generalize w2.alloc (.cells #[.map (some M0), .map (some M1), .map (some M2)] 74) = wl at A2 ⊢; generalize w2.heap.size = gt at A2 ⊢; generalize w1.heap.size = b at A2
  go_loopg [27] l1.length (fun gg v wr => ∃ (i : Nat) (c0 : List S37) (c1 : List S40) (c2 : List S43), i ≤ l1.length ∧ l1.length - i ≤ gg ∧ v = .int .i64 i ∧ Aside0 (AlInv w wr b gt M0 M1 M2 (n0 + i) ok c0 c1 c2) ∧ Aside0 (apAll (l1.drop i) c0 c1 c2 = res) ∧ Aside0 ((Rising (fun x : S37 => x.f0) c0 ∧ Rising (fun x : S40 => x.f0) c1 ∧ Rising (fun x : S43 => x.f0) c2) ∧ c0.length ≤ 10000 + i ∧ c1.length ≤ 10000 + i ∧ c2.length ≤ 10000 + i))
  case atStart => exact ⟨0, _, _, _, by omega, by omega, rfl, A2, HRES, ⟨HG.out.2.1, HG.out.1⟩⟩
  case round =>
   clear A2 HRES; obtain ⟨i, c0, c1, c2, hi, hg, rfl, IV, RS, RL⟩ := hrel
   by_cases hlt : i < l1.length
   ·have hltI : (i : Int) < (l1.length : Int) := by omega
    obtain ⟨ad, A5, c5, A7, c7, A8, c8, A10, c10, A11, c11, e0, hx0, hx1, hx2, hx3, hx4, hx5, hx6, hx7, hx8, hx9, hx10, hx11, hf⟩ := atV45 (Kd.V_below V3'.out IV.out.hb) i hlt; cases e0
    have HII := aM (HC.out _ (List.getElem_mem hlt)); have HF := aM hf; have RS2 := aM (show apAll (l1[i] :: l1.drop (i + 1)) c0 c1 c2 = res by have h := RS.out; rwa [List.drop_eq_getElem_cons hlt] at h); clear hf RS; generalize l1[i] = x at hx0 hx1 hx2 hx3 hx4 hx5 hx6 hx7 hx8 hx9 hx10 hx11 HF HII RS2; have IVx := aM (IV.out.alloc (.cells #[.int .i64 x.f0, .int .i64 x.f1, .int .i64 x.f2.f0, .int .i64 x.f2.f1.f0, .int .i64 x.f2.f1.f1, .slice A5 x.f2.f2.length c5, .int .i64 x.f3.f0, .slice A7 x.f3.f1.length c7, .slice A8 x.f3.f2.length c8, .int .i64 x.f4.f0, .slice A10 x.f4.f1.length c10, .slice A11 x.f4.f2.length c11] 45)); have HFx := aM (Kd.FK_below HF.out (bA (Below.refl _ _) (.cells #[.int .i64 x.f0, .int .i64 x.f1, .int .i64 x.f2.f0, .int .i64 x.f2.f1.f0, .int .i64 x.f2.f1.f1, .slice A5 x.f2.f2.length c5, .int .i64 x.f3.f0, .slice A7 x.f3.f1.length c7, .slice A8 x.f3.f2.length c8, .int .i64 x.f4.f0, .slice A10 x.f4.f1.length c10, .slice A11 x.f4.f2.length c11] 45))); have hm0 : (wr.alloc (.cells #[.int .i64 x.f0, .int .i64 x.f1, .int .i64 x.f2.f0, .int .i64 x.f2.f1.f0, .int .i64 x.f2.f1.f1, .slice A5 x.f2.f2.length c5, .int .i64 x.f3.f0, .slice A7 x.f3.f1.length c7, .slice A8 x.f3.f2.length c8, .int .i64 x.f4.f0, .slice A10 x.f4.f1.length c10, .slice A11 x.f4.f2.length c11] 45)).cell? ⟨gt, 0, none⟩ = some (.map (some M0)) := (kC IVx.out.ht 0).trans rfl; have hm1 : (wr.alloc (.cells #[.int .i64 x.f0, .int .i64 x.f1, .int .i64 x.f2.f0, .int .i64 x.f2.f1.f0, .int .i64 x.f2.f1.f1, .slice A5 x.f2.f2.length c5, .int .i64 x.f3.f0, .slice A7 x.f3.f1.length c7, .slice A8 x.f3.f2.length c8, .int .i64 x.f4.f0, .slice A10 x.f4.f1.length c10, .slice A11 x.f4.f2.length c11] 45)).cell? ⟨gt, 1, none⟩ = some (.map (some M1)) := (kC IVx.out.ht 1).trans rfl; have hm2 : (wr.alloc (.cells #[.int .i64 x.f0, .int .i64 x.f1, .int .i64 x.f2.f0, .int .i64 x.f2.f1.f0, .int .i64 x.f2.f1.f1, .slice A5 x.f2.f2.length c5, .int .i64 x.f3.f0, .slice A7 x.f3.f1.length c7, .slice A8 x.f3.f2.length c8, .int .i64 x.f4.f0, .slice A10 x.f4.f1.length c10, .slice A11 x.f4.f2.length c11] 45)).cell? ⟨gt, 2, none⟩ = some (.map (some M2)) := (kC IVx.out.ht 2).trans rfl
    by_cases hae : apE x c0 c1 c2 = 0
    ·have hae1 : (apE x c0 c1 c2 == 0) = true := beq_iff_eq.mpr hae; have hae2 : (apE x c0 c1 c2 != 0) = false := bne_eq_false_iff_eq.mpr hae; have HAE := aM hae; have RS3 := aM (show apAll (l1.drop (i + 1)) (ap0 x c0) (ap1 x c1) (ap2 x c2) = res by have h := RS2.out; rw [apAll, if_pos hae] at h; exact h); clear hae RS2
     go_wp2_with (first | (go_at_call 31; refine (table_apply.callsM _ IVx.out.tb (by have := HN0.out; have := HLE.out; unfold maxLen; omega) HFx.out HII.out.1 HII.out.2.1 HII.out.2.2).mono ?_; rintro e w3 ⟨rfl, htb, hsz, M, hM, hgr⟩; have IV3 := aM (IVx.out.turn hM hgr (htb HAE.out)); clear htb hsz hM hgr hm0 hm1 hm2) | go_in)
     go_roundg (l1.length - (i + 1))
     case measure => omega
     case rel =>
      have a0 := ap0_ok (x := x) RL.out.1.1; have a1 := ap1_ok (x := x) RL.out.1.2.1; have a2 := ap2_ok (x := x) RL.out.1.2.2; have rl := RL.out.2; exact ⟨i + 1, _, _, _, by omega, by omega, by have := HLE.out; have hw_ := IntWalk.wrap64_in ((i : Int) + 1) (by omega); rw [hw_]; go_num, IV3, RS3, ⟨⟨a0.1, a1.1, a2.1⟩, by omega, by omega, by omega⟩⟩
    ·have hae1 : (apE x c0 c1 c2 == 0) = false := beq_eq_false_iff_ne.mpr hae; have hae2 : (apE x c0 c1 c2 != 0) = true := bne_iff_ne.mpr hae; have HER := aM (show (([], [], [], apE x c0 c1 c2) : List S37 × List S40 × List S43 × Int) = (r1, r2, r3, r4) by
      have h := RS2.out; rw [apAll, if_neg hae] at h; have h2 := HD.out; rw [← h, if_neg hae] at h2; exact Option.some.inj h2)
     clear hae RS2
     go_wp2_with (first | (go_at_call 31; refine (table_apply.callsM _ IVx.out.tb (by have := HN0.out; have := HLE.out; unfold maxLen; omega) HFx.out HII.out.1 HII.out.2.1 HII.out.2.2).mono ?_; rintro e w3 ⟨rfl, _, hsz, M, hM, hgr⟩; have B1 := aM (IVx.out.left hM hgr); clear hsz hM hgr hm0 hm1 hm2; have hr0 : w3.cell? ⟨w.heap.size + 1, 0, none⟩ = some (.slice none 0 0) := (kC B1.out.2 0).trans rfl; have hz0 := kF B1.out.2 0; have hr1 : w3.cell? ⟨w.heap.size + 1, 1, none⟩ = some (.slice none 0 0) := (kC B1.out.2 1).trans rfl; have hz1 := kF B1.out.2 1; have hr2 : w3.cell? ⟨w.heap.size + 1, 2, none⟩ = some (.slice none 0 0) := (kC B1.out.2 2).trans rfl; have hz2 := kF B1.out.2 2) | go_in)
     refine bodyPost_ret (results_ct rfl _ _ (w.heap.size + 1) 26 #[.slice none 0 0, .slice none 0 0, .slice none 0 0] (0, 0) _ rfl (by refine kP (cs := #[.slice none 0 0, .slice none 0 0, .slice none 0 0]) ?_ 2 _ rfl; refine kP (cs := #[.slice none 0 0, .slice none 0 0, .slice none 0 0]) ?_ 1 _ rfl; refine kP (cs := #[.slice none 0 0, .slice none 0 0, .slice none 0 0]) ?_ 0 _ rfl; exact B1.out.2) Tryz.underlying26 rfl (by kernel_rfl)) rfl ?_; have h := HER.out; simp only [Prod.mk.injEq] at h; obtain ⟨rfl, rfl, rfl, rfl⟩ := h; have hge : w.heap.size ≤ w.heap.size + 1 := by omega
     exact ⟨_, _, _, rfl, (ZV.out _ _).1, (ZV.out _ _).2.1, (ZV.out _ _).2.2, bT (bT (bT B1.out.1 hge) hge) hge⟩
   ·have : i = l1.length := by omega
    subst this; have HRS := aM (show (c0, c1, c2, 0) = res by have h := RS.out; rw [List.drop_eq_nil_of_le (Nat.le_refl _), apAll] at h; exact h); have HD3 := aM (show ((data_Check.f k c0 c1 c2).bind fun e2 => (if e2 = 0 then some (c0, c1, c2, 0) else some ([], [], [], e2))) = some (r1, r2, r3, r4) by have h := HD.out; rw [← HRS.out] at h; simpa using h); obtain ⟨e2, he2, h2⟩ := Option.bind_eq_some_iff.mp HD3.out; have HE2 := aM he2; have HQ2 := aM h2; clear RS HD HRS HD3 he2 h2; have hm0 : wr.cell? ⟨gt, 0, none⟩ = some (.map (some M0)) := (kC IV.out.ht 0).trans rfl; have hm1 : wr.cell? ⟨gt, 1, none⟩ = some (.map (some M1)) := (kC IV.out.ht 1).trans rfl; have hm2 : wr.cell? ⟨gt, 2, none⟩ = some (.map (some M2)) := (kC IV.out.ht 2).trans rfl
    by_cases ez : e2 = 0
    ·have ez3 : (e2 == 0) = true := beq_iff_eq.mpr ez; have ez4 : (e2 != 0) = false := bne_eq_false_iff_eq.mpr ez; have HQ3 := aM (show (c0, c1, c2, (0 : Int)) = (r1, r2, r3, r4) by have h := HQ2.out; rw [if_pos ez] at h; exact Option.some.inj h); clear ez HQ2
     go_wp2_with (first | (go_at_call 32; refine (table_list.callsM wr IV.out.tb RL.out.1 (by have := RL.out.2; have := HLE.out; omega)).mono ?_; rintro e w4 ⟨v0, v1, v2, rfl, hn0, hn1, hn2, hb4⟩; obtain ⟨Aa, ca, rfl⟩ := Kd.N_slice hn0; obtain ⟨Ab, cb, rfl⟩ := Kd.N_slice hn1; obtain ⟨Ac, cc, rfl⟩ := Kd.N_slice hn2; have HOK4 := aM (show w.heap.size + 1 < wr.heap.size from blk_lt IV.out.hr); have N0 := aM (Kd.N_alloc hn0 (.cells #[.slice Aa c0.length ca, .slice Ab c1.length cb, .slice Ac c2.length cc] 26)); have N1 := aM (Kd.N_alloc hn1 (.cells #[.slice Aa c0.length ca, .slice Ab c1.length cb, .slice Ac c2.length cc] 26)); have N2 := aM (Kd.N_alloc hn2 (.cells #[.slice Aa c0.length ca, .slice Ab c1.length cb, .slice Ac c2.length cc] 26)); have B4 := aM (And.intro (bA (IV.out.hb.trans (hb4.mono IV.out.hb.size)) (.cells #[.slice Aa c0.length ca, .slice Ab c1.length cb, .slice Ac c2.length cc] 26)) (And.intro (kA (kB IV.out.hr hb4) (.cells #[.slice Aa c0.length ca, .slice Ab c1.length cb, .slice Ac c2.length cc] 26)) (blk_new w4 (.cells #[.slice Aa c0.length ca, .slice Ab c1.length cb, .slice Ac c2.length cc] 26)))); clear hn0 hn1 hn2 hb4 hm0 hm1 hm2) | (go_at_call 29; refine (data_Check.calls k Aa ca c0 Ab cb c1 Ac cc c2 e2 _ (Kd.N_reads' N0.out).2.2 (Kd.N_reads' N0.out).2.1 (Kd.N_reads' N1.out).2.2 (Kd.N_reads' N1.out).2.1 (Kd.N_reads' N2.out).2.2 (Kd.N_reads' N2.out).2.1 HE2.out).mono ?_; rintro e w5 ⟨rfl, hb5⟩; have B5 := aM (And.intro (B4.out.1.trans (hb5.mono B4.out.1.size)) (And.intro (kB B4.out.2.1 hb5) (kB B4.out.2.2 hb5))); have Q0 := aM (Kd.N_below N0.out hb5); have Q1 := aM (Kd.N_below N1.out hb5); have Q2 := aM (Kd.N_below N2.out hb5); clear hb5; have hr0 : w5.cell? ⟨w.heap.size + 1, 0, none⟩ = some (.slice none 0 0) := (kC B5.out.2.1 0).trans rfl; have hz0 := kF B5.out.2.1 0; have hq0 : w5.cell? ⟨w4.heap.size, 0, none⟩ = some (.slice Aa c0.length ca) := (kC B5.out.2.2 0).trans rfl; have hr1 : w5.cell? ⟨w.heap.size + 1, 1, none⟩ = some (.slice none 0 0) := (kC B5.out.2.1 1).trans rfl; have hz1 := kF B5.out.2.1 1; have hq1 : w5.cell? ⟨w4.heap.size, 1, none⟩ = some (.slice Ab c1.length cb) := (kC B5.out.2.2 1).trans rfl; have hr2 : w5.cell? ⟨w.heap.size + 1, 2, none⟩ = some (.slice none 0 0) := (kC B5.out.2.1 2).trans rfl; have hz2 := kF B5.out.2.1 2; have hq2 : w5.cell? ⟨w4.heap.size, 2, none⟩ = some (.slice Ac c2.length cc) := (kC B5.out.2.2 2).trans rfl) | go_in)
     refine bodyPost_ret (results_ct rfl _ _ (w.heap.size + 1) 26 #[.slice Aa c0.length ca, .slice Ab c1.length cb, .slice Ac c2.length cc] (0, 0) _ rfl (by refine kP (cs := #[.slice Aa c0.length ca, .slice Ab c1.length cb, .slice none 0 0]) ?_ 2 _ rfl; refine kP (cs := #[.slice Aa c0.length ca, .slice none 0 0, .slice none 0 0]) ?_ 1 _ rfl; refine kP (cs := #[.slice none 0 0, .slice none 0 0, .slice none 0 0]) ?_ 0 _ rfl; exact B5.out.2.1) Tryz.underlying26 rfl (by kernel_rfl)) rfl ?_; have h := HQ3.out; simp only [Prod.mk.injEq] at h; obtain ⟨rfl, rfl, rfl, rfl⟩ := h; have hge : w.heap.size ≤ w.heap.size + 1 := by omega
     have hok := HOK.out; subst hok; have hlo := HOK4.out; have hfa : ∀ k_, (((P0_0 k_ ∨ (P0_1 k_ ∨ (P0_2 k_ ∨ P1_0 k_))) ∧ k_ < w.heap.size) ∨ wr.heap.size ≤ k_) → k_ ≠ w.heap.size + 1 := fun k_ hk => by rcases hk with hk | hk <;> omega
     have hmo : ∀ k_, (((P0_0 k_ ∨ (P0_1 k_ ∨ (P0_2 k_ ∨ P1_0 k_))) ∧ k_ < w.heap.size) ∨ wr.heap.size ≤ k_) → ((P0_0 k_ ∨ (P0_1 k_ ∨ (P0_2 k_ ∨ P1_0 k_))) ∨ w.heap.size ≤ k_) := fun k_ hk => hk.elim (fun h => .inl h.1) (fun h => .inr (by omega))
     exact ⟨_, _, _, rfl, Kd.V_mono (Kd.N_V (Kd.N_far (Kd.N_far (Kd.N_far Q0.out (p := ⟨w.heap.size + 1, 0, none⟩) hfa _) (p := ⟨w.heap.size + 1, 1, none⟩) hfa _) (p := ⟨w.heap.size + 1, 2, none⟩) hfa _)) hmo, Kd.V_mono (Kd.N_V (Kd.N_far (Kd.N_far (Kd.N_far Q1.out (p := ⟨w.heap.size + 1, 0, none⟩) hfa _) (p := ⟨w.heap.size + 1, 1, none⟩) hfa _) (p := ⟨w.heap.size + 1, 2, none⟩) hfa _)) hmo, Kd.V_mono (Kd.N_V (Kd.N_far (Kd.N_far (Kd.N_far Q2.out (p := ⟨w.heap.size + 1, 0, none⟩) hfa _) (p := ⟨w.heap.size + 1, 1, none⟩) hfa _) (p := ⟨w.heap.size + 1, 2, none⟩) hfa _)) hmo, bT (bT (bT B5.out.1 hge) hge) hge⟩
    ·have ez3 : (e2 == 0) = false := beq_eq_false_iff_ne.mpr ez; have ez4 : (e2 != 0) = true := bne_iff_ne.mpr ez; have HQ3 := aM (show (([], [], [], e2) : List S37 × List S40 × List S43 × Int) = (r1, r2, r3, r4) by have h := HQ2.out; rw [if_neg ez] at h; exact Option.some.inj h); clear ez HQ2
     go_wp2_with (first | (go_at_call 32; refine (table_list.callsM wr IV.out.tb RL.out.1 (by have := RL.out.2; have := HLE.out; omega)).mono ?_; rintro e w4 ⟨v0, v1, v2, rfl, hn0, hn1, hn2, hb4⟩; obtain ⟨Aa, ca, rfl⟩ := Kd.N_slice hn0; obtain ⟨Ab, cb, rfl⟩ := Kd.N_slice hn1; obtain ⟨Ac, cc, rfl⟩ := Kd.N_slice hn2; have HOK4 := aM (show w.heap.size + 1 < wr.heap.size from blk_lt IV.out.hr); have N0 := aM (Kd.N_alloc hn0 (.cells #[.slice Aa c0.length ca, .slice Ab c1.length cb, .slice Ac c2.length cc] 26)); have N1 := aM (Kd.N_alloc hn1 (.cells #[.slice Aa c0.length ca, .slice Ab c1.length cb, .slice Ac c2.length cc] 26)); have N2 := aM (Kd.N_alloc hn2 (.cells #[.slice Aa c0.length ca, .slice Ab c1.length cb, .slice Ac c2.length cc] 26)); have B4 := aM (And.intro (bA (IV.out.hb.trans (hb4.mono IV.out.hb.size)) (.cells #[.slice Aa c0.length ca, .slice Ab c1.length cb, .slice Ac c2.length cc] 26)) (And.intro (kA (kB IV.out.hr hb4) (.cells #[.slice Aa c0.length ca, .slice Ab c1.length cb, .slice Ac c2.length cc] 26)) (blk_new w4 (.cells #[.slice Aa c0.length ca, .slice Ab c1.length cb, .slice Ac c2.length cc] 26)))); clear hn0 hn1 hn2 hb4 hm0 hm1 hm2) | (go_at_call 29; refine (data_Check.calls k Aa ca c0 Ab cb c1 Ac cc c2 e2 _ (Kd.N_reads' N0.out).2.2 (Kd.N_reads' N0.out).2.1 (Kd.N_reads' N1.out).2.2 (Kd.N_reads' N1.out).2.1 (Kd.N_reads' N2.out).2.2 (Kd.N_reads' N2.out).2.1 HE2.out).mono ?_; rintro e w5 ⟨rfl, hb5⟩; have B5 := aM (And.intro (B4.out.1.trans (hb5.mono B4.out.1.size)) (And.intro (kB B4.out.2.1 hb5) (kB B4.out.2.2 hb5))); have Q0 := aM (Kd.N_below N0.out hb5); have Q1 := aM (Kd.N_below N1.out hb5); have Q2 := aM (Kd.N_below N2.out hb5); clear hb5; have hr0 : w5.cell? ⟨w.heap.size + 1, 0, none⟩ = some (.slice none 0 0) := (kC B5.out.2.1 0).trans rfl; have hz0 := kF B5.out.2.1 0; have hr1 : w5.cell? ⟨w.heap.size + 1, 1, none⟩ = some (.slice none 0 0) := (kC B5.out.2.1 1).trans rfl; have hz1 := kF B5.out.2.1 1; have hr2 : w5.cell? ⟨w.heap.size + 1, 2, none⟩ = some (.slice none 0 0) := (kC B5.out.2.1 2).trans rfl; have hz2 := kF B5.out.2.1 2) | go_in)
     refine bodyPost_ret (results_ct rfl _ _ (w.heap.size + 1) 26 #[.slice none 0 0, .slice none 0 0, .slice none 0 0] (0, 0) _ rfl (by refine kP (cs := #[.slice none 0 0, .slice none 0 0, .slice none 0 0]) ?_ 2 _ rfl; refine kP (cs := #[.slice none 0 0, .slice none 0 0, .slice none 0 0]) ?_ 1 _ rfl; refine kP (cs := #[.slice none 0 0, .slice none 0 0, .slice none 0 0]) ?_ 0 _ rfl; exact B5.out.2.1) Tryz.underlying26 rfl (by kernel_rfl)) rfl ?_; have h := HQ3.out; simp only [Prod.mk.injEq] at h; obtain ⟨rfl, rfl, rfl, rfl⟩ := h; have hge : w.heap.size ≤ w.heap.size + 1 := by omega
     exact ⟨_, _, _, rfl, (ZV.out _ _).1, (ZV.out _ _).2.1, (ZV.out _ _).2.2, bT (bT (bT B5.out.1 hge) hge) hge⟩
end Go.Proofs.YtijoaohckgbneaaGreat.PAll
