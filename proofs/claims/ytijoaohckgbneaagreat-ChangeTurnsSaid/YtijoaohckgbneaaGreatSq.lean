import Derived.Test.YtijoaohckgbneaaGreatWInvWords
import Derived.Test.YtijoaohckgbneaaGreatWTab
import Derived.Test.YtijoaohckgbneaaGreatWWords
import Derived.Test.YtijoaohckgbneaaGreatWLast
import Derived.Test.YtijoaohckgbneaaGreatWMore
import Derived.Test.YtijoaohckgbneaaGreatWApart
import Derived.Test.YtijoaohckgbneaaGreatWZeros
import Derived.Test.YtijoaohckgbneaaGreatWFoot
import Derived.Test.YtijoaohckgbneaaGreatWKept
import Derived.Test.YtijoaohckgbneaaGreatWShare
import Derived.Test.YtijoaohckgbneaaGreatWN
import Derived.Test.YtijoaohckgbneaaGreatWEqStruct
import Derived.Test.YtijoaohckgbneaaGreatWRepsOne
import Derived.Test.YtijoaohckgbneaaGreatWGuard
import Derived.Test.YtijoaohckgbneaaGreatWNEv
section
namespace Go.Proofs.YtijoaohckgbneaaGreatW.PrintWords
open Go.RowKit
section
variable {w w' u : World} {m B g : Nat} {o : Obj} {row : Option Nat} {S : Nat → Prop} {a : Addr} {v : Value}
end
namespace Kd
section
variable {α : Type} {d : Kd α} {e base n m : Nat} {ok : Nat → Prop} {w w' : World} {v : Value} {A : Option Addr} {xs : List α}
end
end Kd
end Go.Proofs.YtijoaohckgbneaaGreatW.PrintWords
end
section
section
namespace Go.Proofs.YtijoaohckgbneaaGreatW.PrintLast
section
variable {P : Program} {ops : Array Oper} {Q : Exit → Act → World → Prop} {md : Region.Mode} {S : World → Prop} {ds : List Nat} {T : Bool × List (List Nat × List Nat)}
end
end Go.Proofs.YtijoaohckgbneaaGreatW.PrintLast
end
section
namespace Go.Proofs.YtijoaohckgbneaaGreatW.PrintWords
open Go.RowKit Go.Proofs.YtijoaohckgbneaaGreatW.PrintLast Go.Proofs.YtijoaohckgbneaaGreatW.PrintMore
abbrev rA := @Kd.R_alloc
abbrev rN := @Kd.R_drewN
abbrev rD := @Kd.R_drew
abbrev bA := @below_alloc
abbrev bN := @pw_below_drewN
abbrev bD := @below_drew1
abbrev kN := @blk_drewN
abbrev kD := @blk_drew
abbrev kA := @blk_alloc
abbrev rB := @Kd.R_below
abbrev rE := @Kd.R_elder'
abbrev kB := @blk_below
abbrev bS := @below_step
abbrev rR := @Kd.R_reads'
abbrev kC := @blk_cell
abbrev kF := @blk_frozen
abbrev kP := @blk_put
abbrev bT := @below_set
abbrev cA := @Kd.C_alloc
abbrev cN := @Kd.C_drewN
abbrev cD := @Kd.C_drew
abbrev rM := @Kd.R_mono
abbrev aM := @Aside0.mk
abbrev sA := @List.setIfInBounds_toArray
abbrev sB := @List.set_cons_zero
abbrev sC := @List.set_cons_succ
theorem hs {w w' : World} {a : Addr} {v : Value} (hb : Below w.heap.size w w') (h : w.cell? a = some v) : w'.cell? a = some v := (hb.cell (World.block_lt_of_cell? _ _ h)).trans h
theorem bl {B : Nat} {w W : World} (h : Below B w W := by repeat (first | (with_reducible first | exact Aside0.out (by assumption) | apply below_alloc | apply pw_below_drewN | apply below_drew1 | refine below_set ?_ (Aside0.out (by assumption))))) : Below B w W := h
theorem rl {α : Type} {d : Kd α} {e base : Nat} {ok : Nat → Prop} {w0 w : World} {v : Value} {xs : List α} (_h0 : Aside0 (d.R e w0 base ok v xs)) (h : d.R e w base ok v xs := by (with_reducible repeat (first | apply Kd.R_alloc | apply Kd.R_drewN | apply Kd.R_drew)); exact Aside0.out (by assumption)) : d.R e w base ok v xs := h
theorem kl {g : Nat} {o : Obj} {w0 W : World} (_h0 : Aside0 (w0.heap[g]? = some o)) (h : W.heap[g]? = some o := by (with_reducible repeat (first | refine blk_drewN ?_ _ | refine blk_drew ?_ | refine blk_alloc ?_ _)); exact Aside0.out (by assumption)) : W.heap[g]? = some o := h
def ba (n b : Nat) : Array Bool := ((List.range n).map fun i => b.testBit i).toArray
theorem bk {g : Nat} {o o0 : Obj} {w0 W : World} (_h0 : Aside0 (w0.heap[g]? = some o0)) (h : W.heap[g]? = some o := by (repeat' (first | (with_reducible first | exact Aside0.out (by assumption) | refine blk_drewN ?_ _ | refine blk_drew ?_ | refine blk_alloc ?_ _) | refine blk_far ?_ (Aside0.out (by assumption)) _ | refine blk_put (cs := ?_) ?_ _ _ ?_)); all_goals (try (first | (simp only [List.setIfInBounds_toArray, List.set_cons_zero, List.set_cons_succ] <;> rfl) | rfl))) : W.heap[g]? = some o := h
theorem kp {w W W0 : World} {g : Nat} {row : Option Nat} (_h0 : Aside0 (KeepBut w W0 g row)) (h : KeepBut w W g row := by repeat (first | (with_reducible first | exact Aside0.out (by assumption) | apply KeepBut.set_ | apply keep_drewN | apply keep_drew | apply keep_alloc | refine keep_far ?_ (Aside0.out (by assumption)) _))) : KeepBut w W g row := h
theorem gk {w W W0 : World} {g gb : Nat} {row : Option Nat} (_h0 : Aside0 (KeepBut w W0 g row)) (hg : gb = W.heap.size) (h : KeepBut w W g row := by repeat (first | (with_reducible first | exact Aside0.out (by assumption) | apply KeepBut.set_ | apply keep_drewN | apply keep_drew | apply keep_alloc | refine keep_far ?_ (Aside0.out (by assumption)) _))) : w.heap.size ≤ gb := by rw [hg]; exact keep_size h
theorem kt {w W W1 W0 : World} {g : Nat} (_h0 : Aside0 (KeepBut w W0 g none)) (hb : Below W.heap.size W W1) (h : KeepBut w W g none := by repeat (first | (with_reducible first | exact Aside0.out (by assumption) | apply KeepBut.set_ | apply keep_drewN | apply keep_drew | apply keep_alloc | refine keep_far ?_ (Aside0.out (by assumption)) _))) : KeepBut w W1 g none := KeepBut.trans h (KeepBut.of_below hb g none) (.inl rfl)
theorem ku {w W W1 W0 : World} {g : Nat} (_h0 : Aside0 (KeepBut w W0 g none)) (hk : KeepBut W W1 g none) (h : KeepBut w W g none := by repeat (first | (with_reducible first | exact Aside0.out (by assumption) | apply KeepBut.set_ | apply keep_drewN | apply keep_drew | apply keep_alloc | refine keep_far ?_ (Aside0.out (by assumption)) _))) : KeepBut w W1 g none := KeepBut.trans h hk (.inl rfl)
theorem k0 {w w1 W0 : World} {g g' : Nat} {o : Obj} (hk : KeepBut w w1 g none) (_h0 : Aside0 (W0.heap[g']? = some o)) (hg : Aside0 (g' ≠ g)) (hb : w.heap[g']? = some o := by (with_reducible repeat (first | refine blk_drewN ?_ _ | refine blk_drew ?_ | refine blk_alloc ?_ _)); exact Aside0.out (by assumption)) : w1.heap[g']? = some o := KeepBut.blk hk hb hg.out (by simp)
theorem kb {w w1 W0 : World} {g g' : Nat} {o0 : Obj} (hk : KeepBut w w1 g none) (_h0 : Aside0 (W0.heap[g']? = some o0)) (hg : Aside0 (g' ≠ g)) (o : Obj) (hb : w.heap[g']? = some o := by (repeat' (first | (with_reducible first | exact Aside0.out (by assumption) | refine blk_drewN ?_ _ | refine blk_drew ?_ | refine blk_alloc ?_ _) | refine blk_far ?_ (Aside0.out (by assumption)) _ | refine blk_put (cs := ?_) ?_ _ _ ?_)); all_goals (try (first | (simp only [List.setIfInBounds_toArray, List.set_cons_zero, List.set_cons_succ] <;> rfl) | rfl))) : w1.heap[g']? = some o := KeepBut.blk hk hb hg.out (by simp)
theorem nn {a b : Nat} (h : Aside0 (a ≠ b)) : a ≠ b ∧ b ≠ a := ⟨h.out, h.out.symm⟩
theorem nb {g g' : Nat} {o : Obj} {w0 W : World} (_h0 : Aside0 (w0.heap[g]? = some o)) (hg : g' = W.heap.size) (h : W.heap[g]? = some o := by (with_reducible repeat (first | refine blk_drewN ?_ _ | refine blk_drew ?_ | refine blk_alloc ?_ _)); exact Aside0.out (by assumption)) : g ≠ g' := by rw [hg]; exact Nat.ne_of_lt (blk_lt h)
theorem gw {w W : World} {g : Nat} (hg : g = W.heap.size) (h : Below w.heap.size w W := by repeat (first | (with_reducible first | exact Aside0.out (by assumption) | apply below_alloc | apply pw_below_drewN | apply below_drew1 | refine below_set ?_ (Aside0.out (by assumption))))) : w.heap.size ≤ g := by rw [hg]; exact below_size h
theorem oT {p : Prop} [Decidable p] (h : decide p = true := by first | (with_reducible assumption) | assumption) : p := of_decide_eq_true h
theorem gL {P : Program} {ops : Array Oper} {Q : Exit → Act → World → Prop} {rest : List Oper} {oi : Oper} {a : Act} {w : World} (N : Option Tmp) {f : FuncId} {fn : Func} {as : Array Operand} {ts : Array TypeId} (hf : P.funcs[f]? = some fn) (args : Array Value)
    (h : Calls P f args w fun e w' => ∃ v, e = .returned v ∧ wpList P ops Q rest (a.put N v) w') (hd : oi.dst = N := by exact rfl) (hg : oi.guard = none := by exact rfl) (hname : (fn.name == "runtime.NumGoroutine") = false := by kernel_rfl) (hb : fn.body.isSome = true := by exact rfl)
    (hop : oi.op = .call { callee := .value (.func f), args := as, argTypes := ts } := by exact rfl) (hargs : as.map a.eval = args := by (try simp only [List.map_toArray, List.map_cons, List.map_nil]); first | done | rfl | (simp only [List.length_drop, List.length_take]; rfl)) : wpList P ops Q (oi :: rest) a w := goesL_ N hd hg hf hname hb args hop hargs h
theorem bx {P : Program} {ops : Array Oper} {rest : List Oper} {o : Oper} {a : Act} {Q : Exit → Act → World → Prop} {W : World} {N : Tmp} {cs : Array Value} {t : TypeId}
    (h : ∀ g, g = W.heap.size → ∀ w1, w1.heap[g]? = some (.cells cs t (0, 0)) → Below W.heap.size W w1 → wpList P ops Q rest (a.put o.dst (.pointer (some ⟨g, 0, none⟩))) w1) (hgd : o.guard = none := by rfl) (hd : o.dst = some N := by rfl)
    (hrun : (execOp a.eval o).run P W = .ok (.value (.pointer (some ⟨W.heap.size, 0, none⟩))) (W.alloc (.cells cs t (0, 0))) := by first | (go_simp; done) | (go_simp; rfl)) : wpList P ops Q (o :: rest) a W := box_event hgd hd hrun h
theorem n2 {g g' : Nat} {o : Obj} {w0 W : World} (_h0 : Aside0 (w0.heap[g]? = some o)) (hg : g' = W.heap.size) (h : W.heap[g]? = some o := by (with_reducible repeat (first | refine blk_drewN ?_ _ | refine blk_drew ?_ | refine blk_alloc ?_ _)); exact Aside0.out (by assumption)) : Aside0 (g ≠ g') ∧ Aside0 (g' ≠ g) := have e : g ≠ g' := by rw [hg]; exact Nat.ne_of_lt (blk_lt h)
  ⟨⟨e⟩, ⟨e.symm⟩⟩
theorem cl {α : Type} {d : Kd α} {w0 w : World} {A : Option Addr} {n : Nat} {l : List α} (_h0 : Aside0 (d.C w0 A n l)) (h : d.C w A n l := by repeat (first | exact Kd.C_below (Aside0.out (by assumption)) (Aside0.out (by assumption)) | (with_reducible refine Kd.C_alloc ?_ _) | (with_reducible refine Kd.C_drewN ?_ _) | (with_reducible refine Kd.C_drew ?_))) : d.C w A n l := h
theorem bc2 {w : World} {g : Nat} {c0 c1 : Value} {t : TypeId} (h : Aside0 (w.heap[g]? = some (.cells #[c0, c1] t (0, 0)))) : w.cell? ⟨g, 0, none⟩ = some c0 ∧ w.cell? ⟨g, 1, none⟩ = some c1 ∧ w.frozen? ⟨g, 0, none⟩ = false ∧ w.frozen? ⟨g, 1, none⟩ = false := ⟨(blk_cell h.out 0).trans rfl, (blk_cell h.out 1).trans rfl, blk_frozen h.out 0, blk_frozen h.out 1⟩
theorem bc3 {w : World} {g : Nat} {c0 c1 c2 : Value} {t : TypeId} (h : Aside0 (w.heap[g]? = some (.cells #[c0, c1, c2] t (0, 0)))) : w.cell? ⟨g, 0, none⟩ = some c0 ∧ w.cell? ⟨g, 1, none⟩ = some c1 ∧ w.cell? ⟨g, 2, none⟩ = some c2 ∧ w.frozen? ⟨g, 0, none⟩ = false ∧ w.frozen? ⟨g, 1, none⟩ = false ∧ w.frozen? ⟨g, 2, none⟩ = false := ⟨(blk_cell h.out 0).trans rfl, (blk_cell h.out 1).trans rfl, (blk_cell h.out 2).trans rfl, blk_frozen h.out 0, blk_frozen h.out 1, blk_frozen h.out 2⟩
theorem bc4 {w : World} {g : Nat} {c0 c1 c2 c3 : Value} {t : TypeId} (h : Aside0 (w.heap[g]? = some (.cells #[c0, c1, c2, c3] t (0, 0)))) : w.cell? ⟨g, 0, none⟩ = some c0 ∧ w.cell? ⟨g, 1, none⟩ = some c1 ∧ w.cell? ⟨g, 2, none⟩ = some c2 ∧ w.cell? ⟨g, 3, none⟩ = some c3 ∧ w.frozen? ⟨g, 0, none⟩ = false ∧ w.frozen? ⟨g, 1, none⟩ = false ∧ w.frozen? ⟨g, 2, none⟩ = false ∧ w.frozen? ⟨g, 3, none⟩ = false := ⟨(blk_cell h.out 0).trans rfl, (blk_cell h.out 1).trans rfl, (blk_cell h.out 2).trans rfl, (blk_cell h.out 3).trans rfl, blk_frozen h.out 0, blk_frozen h.out 1, blk_frozen h.out 2, blk_frozen h.out 3⟩
theorem bc5 {w : World} {g : Nat} {c0 c1 c2 c3 c4 : Value} {t : TypeId} (h : Aside0 (w.heap[g]? = some (.cells #[c0, c1, c2, c3, c4] t (0, 0)))) : w.cell? ⟨g, 0, none⟩ = some c0 ∧ w.cell? ⟨g, 1, none⟩ = some c1 ∧ w.cell? ⟨g, 2, none⟩ = some c2 ∧ w.cell? ⟨g, 3, none⟩ = some c3 ∧ w.cell? ⟨g, 4, none⟩ = some c4 ∧ w.frozen? ⟨g, 0, none⟩ = false ∧ w.frozen? ⟨g, 1, none⟩ = false ∧ w.frozen? ⟨g, 2, none⟩ = false ∧ w.frozen? ⟨g, 3, none⟩ = false ∧ w.frozen? ⟨g, 4, none⟩ = false := ⟨(blk_cell h.out 0).trans rfl, (blk_cell h.out 1).trans rfl, (blk_cell h.out 2).trans rfl, (blk_cell h.out 3).trans rfl, (blk_cell h.out 4).trans rfl, blk_frozen h.out 0, blk_frozen h.out 1, blk_frozen h.out 2, blk_frozen h.out 3, blk_frozen h.out 4⟩
theorem bc12 {w : World} {g : Nat} {c0 c1 c2 c3 c4 c5 c6 c7 c8 c9 c10 c11 : Value} {t : TypeId} (h : Aside0 (w.heap[g]? = some (.cells #[c0, c1, c2, c3, c4, c5, c6, c7, c8, c9, c10, c11] t (0, 0)))) : w.cell? ⟨g, 0, none⟩ = some c0 ∧ w.cell? ⟨g, 1, none⟩ = some c1 ∧ w.cell? ⟨g, 2, none⟩ = some c2 ∧ w.cell? ⟨g, 3, none⟩ = some c3 ∧ w.cell? ⟨g, 4, none⟩ = some c4 ∧ w.cell? ⟨g, 5, none⟩ = some c5 ∧ w.cell? ⟨g, 6, none⟩ = some c6 ∧ w.cell? ⟨g, 7, none⟩ = some c7 ∧ w.cell? ⟨g, 8, none⟩ = some c8 ∧ w.cell? ⟨g, 9, none⟩ = some c9 ∧ w.cell? ⟨g, 10, none⟩ = some c10 ∧ w.cell? ⟨g, 11, none⟩ = some c11 ∧ w.frozen? ⟨g, 0, none⟩ = false ∧ w.frozen? ⟨g, 1, none⟩ = false ∧ w.frozen? ⟨g, 2, none⟩ = false ∧ w.frozen? ⟨g, 3, none⟩ = false ∧ w.frozen? ⟨g, 4, none⟩ = false ∧ w.frozen? ⟨g, 5, none⟩ = false ∧ w.frozen? ⟨g, 6, none⟩ = false ∧ w.frozen? ⟨g, 7, none⟩ = false ∧ w.frozen? ⟨g, 8, none⟩ = false ∧ w.frozen? ⟨g, 9, none⟩ = false ∧ w.frozen? ⟨g, 10, none⟩ = false ∧ w.frozen? ⟨g, 11, none⟩ = false := ⟨(blk_cell h.out 0).trans rfl, (blk_cell h.out 1).trans rfl, (blk_cell h.out 2).trans rfl, (blk_cell h.out 3).trans rfl, (blk_cell h.out 4).trans rfl, (blk_cell h.out 5).trans rfl, (blk_cell h.out 6).trans rfl, (blk_cell h.out 7).trans rfl, (blk_cell h.out 8).trans rfl, (blk_cell h.out 9).trans rfl, (blk_cell h.out 10).trans rfl, (blk_cell h.out 11).trans rfl, blk_frozen h.out 0, blk_frozen h.out 1, blk_frozen h.out 2, blk_frozen h.out 3, blk_frozen h.out 4, blk_frozen h.out 5, blk_frozen h.out 6, blk_frozen h.out 7, blk_frozen h.out 8, blk_frozen h.out 9, blk_frozen h.out 10, blk_frozen h.out 11⟩
section
open Go.Proofs.YtijoaohckgbneaaGreatW.PrintLast
theorem pu {P : Program} {md : Region.Mode} {ops : Array Oper} {Q : Exit → Act → World → Prop} {S : World → Prop} {ds : List Nat} {oi : Oper} {v : Value} {fuel : Nat} {l : Array Bool} {a : Act} {w : World} (i N : Nat) (l' : Array Bool) {a' : Act} (h : wpAnyLast P md ops Q S ds fuel l' a' w) (hi : ops[i]? = some oi := by rfl) (hN : oi.dst = some N := by rfl) (hc : anyB md ops l l' i = true := by first | exact any_of (Aside0.out (by assumption)) (by kernel_rfl) | kernel_rfl)
    (hQ : ∀ c a w, Q (.panic c) (a.put oi.dst v) w → Q (.panic c) a w := by exact fun _ _ _ h => h) (hy : Yields P ops oi v a := by exact Or.inl ⟨by rfl, by intro w'; go_simp; with_reducible rfl⟩) (ha : a.put (some N) v = a' := by simp only [Act.put, List.setIfInBounds_toArray, List.set_cons_zero, List.set_cons_succ, i64_w, i32_w]; rfl) : wpAnyLast P md ops Q S ds (fuel + 1) l a w := pure_ l' hi hN hc hQ hy ha h
theorem tk {P : Program} {md : Region.Mode} {ops : Array Oper} {Q : Exit → Act → World → Prop} {S : World → Prop} {ds : List Nat} {oi : Oper} {v : Value} {fuel : Nat} {l : Array Bool} {a : Act} {w : World} (i N : Nat) (l' : Array Bool) {a' : Act} (h : wpAnyLast P md ops Q S ds fuel l' a' w) (hS : S w := by assumption) (hi : ops[i]? = some oi := by rfl) (hN : oi.dst = some N := by rfl) (hc : takeB md ops ds l l' i = true := by first | exact take_ofW (Aside0.out (by assumption)) (Aside0.out (by assumption)) (by kernel_rfl) | exact take_of (Aside0.out (by assumption)) (by kernel_rfl) | kernel_rfl)
    (hQ : ∀ c a w, Q (.panic c) (a.put oi.dst v) w → Q (.panic c) a w := by exact fun _ _ _ h => h) (hy : YieldsIf P ops S oi v a := by exact Or.inl ⟨by rfl, by intro w' hs_; (repeat (obtain ⟨_, hs_⟩ := hs_)); go_simp; with_reducible rfl⟩) (ha : a.put (some N) v = a' := by simp only [Act.put, List.setIfInBounds_toArray, List.set_cons_zero, List.set_cons_succ, i64_w, i32_w]; rfl) : wpAnyLast P md ops Q S ds (fuel + 1) l a w := take_ l' hi hN hc hQ hy hS ha h
end
theorem rf1 {α : Type} {d : Kd α} {e base : Nat} {ok : Nat → Prop} {w : World} {v u : Value} {xs : List α} {g j : Nat} (h : d.R e w base (fun k => ok k ∧ k ≠ g) v xs) : d.R e (w.setCell ⟨g, j, none⟩ u) base (fun k => ok k ∧ k ≠ g) v xs := Kd.R_far (p := ⟨g, j, none⟩) h (fun _ hk => hk.2) u
theorem rf2 {α : Type} {d : Kd α} {e base : Nat} {ok : Nat → Prop} {w : World} {v u : Value} {xs : List α} {g j g1 : Nat} (h : d.R e w base (fun k => (ok k ∧ k ≠ g) ∧ k ≠ g1) v xs) : d.R e (w.setCell ⟨g, j, none⟩ u) base (fun k => (ok k ∧ k ≠ g) ∧ k ≠ g1) v xs := Kd.R_far (p := ⟨g, j, none⟩) h (fun _ hk => hk.1.2) u
theorem rf3 {α : Type} {d : Kd α} {e base : Nat} {ok : Nat → Prop} {w : World} {v u : Value} {xs : List α} {g j g1 g2 : Nat} (h : d.R e w base (fun k => ((ok k ∧ k ≠ g) ∧ k ≠ g1) ∧ k ≠ g2) v xs) : d.R e (w.setCell ⟨g, j, none⟩ u) base (fun k => ((ok k ∧ k ≠ g) ∧ k ≠ g1) ∧ k ≠ g2) v xs := Kd.R_far (p := ⟨g, j, none⟩) h (fun _ hk => hk.1.1.2) u
theorem rf4 {α : Type} {d : Kd α} {e base : Nat} {ok : Nat → Prop} {w : World} {v u : Value} {xs : List α} {g j g1 g2 g3 : Nat} (h : d.R e w base (fun k => (((ok k ∧ k ≠ g) ∧ k ≠ g1) ∧ k ≠ g2) ∧ k ≠ g3) v xs) : d.R e (w.setCell ⟨g, j, none⟩ u) base (fun k => (((ok k ∧ k ≠ g) ∧ k ≠ g1) ∧ k ≠ g2) ∧ k ≠ g3) v xs := Kd.R_far (p := ⟨g, j, none⟩) h (fun _ hk => hk.1.1.1.2) u
theorem rt {α : Type} {d : Kd α} {e base g t : Nat} {ok : Nat → Prop} {w : World} {v : Value} {xs : List α} {cells : Array Value} (h : d.R e w base ok v xs) (hb : Aside0 (w.heap[g]? = some (.cells cells t (0, 0)))) (ht : ∀ q, q ∈ e :: d.E → q ≠ t := by decide) : d.R e w base (fun k => ok k ∧ k ≠ g) v xs := Kd.R_types h hb.out ht
theorem sf1 {α : Type} {d : Kd α} {e base : Nat} {ok : Nat → Prop} {w : World} {v u : Value} {xs : List α} {g j : Nat} (h : d.S e w base (fun k => ok k ∧ k ≠ g) v xs) : d.S e (w.setCell ⟨g, j, none⟩ u) base (fun k => ok k ∧ k ≠ g) v xs := Kd.S_far (p := ⟨g, j, none⟩) h (fun _ hk => hk.2) u
theorem sf2 {α : Type} {d : Kd α} {e base : Nat} {ok : Nat → Prop} {w : World} {v u : Value} {xs : List α} {g j g1 : Nat} (h : d.S e w base (fun k => (ok k ∧ k ≠ g) ∧ k ≠ g1) v xs) : d.S e (w.setCell ⟨g, j, none⟩ u) base (fun k => (ok k ∧ k ≠ g) ∧ k ≠ g1) v xs := Kd.S_far (p := ⟨g, j, none⟩) h (fun _ hk => hk.1.2) u
theorem sf3 {α : Type} {d : Kd α} {e base : Nat} {ok : Nat → Prop} {w : World} {v u : Value} {xs : List α} {g j g1 g2 : Nat} (h : d.S e w base (fun k => ((ok k ∧ k ≠ g) ∧ k ≠ g1) ∧ k ≠ g2) v xs) : d.S e (w.setCell ⟨g, j, none⟩ u) base (fun k => ((ok k ∧ k ≠ g) ∧ k ≠ g1) ∧ k ≠ g2) v xs := Kd.S_far (p := ⟨g, j, none⟩) h (fun _ hk => hk.1.1.2) u
theorem sf4 {α : Type} {d : Kd α} {e base : Nat} {ok : Nat → Prop} {w : World} {v u : Value} {xs : List α} {g j g1 g2 g3 : Nat} (h : d.S e w base (fun k => (((ok k ∧ k ≠ g) ∧ k ≠ g1) ∧ k ≠ g2) ∧ k ≠ g3) v xs) : d.S e (w.setCell ⟨g, j, none⟩ u) base (fun k => (((ok k ∧ k ≠ g) ∧ k ≠ g1) ∧ k ≠ g2) ∧ k ≠ g3) v xs := Kd.S_far (p := ⟨g, j, none⟩) h (fun _ hk => hk.1.1.1.2) u
theorem st {α : Type} {d : Kd α} {e base g t : Nat} {ok : Nat → Prop} {w : World} {v : Value} {xs : List α} {cells : Array Value} (h : d.S e w base ok v xs) (hb : Aside0 (w.heap[g]? = some (.cells cells t (0, 0)))) (ht : ∀ q, q ∈ e :: d.E → q ≠ t := by decide) : d.S e w base (fun k => ok k ∧ k ≠ g) v xs := Kd.S_types h hb.out ht
end Go.Proofs.YtijoaohckgbneaaGreatW.PrintWords
end
end
