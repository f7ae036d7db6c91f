/- c16, plain: a dataset is the same as itself. -/
import Derived.Test.YtefambkodalomaaPureEnc
import Derived.Test.YtefambkodalomaaPAllx26
namespace Go.Proofs.Ytefambkodalomaa.Pure
open Go.RowKit Go.Proofs.Ytefambkodalomaa.PAll Go.Proofs.YtefambkodalomaaW.PrintWords Go.Proofs.YtefambkodalomaaW.PrintLast Go.Proofs.YtefambkodalomaaW.PrintMore Go.Proofs.YtefambkodalomaaG
set_option linter.unusedVariables false
set_option linter.unusedSimpArgs false
theorem ev_on {α : Type} (n : Nat) (g : Nat → Nat → Option α) (r : α) (hend : Ev (fun k => g k n) r) (hstep : ∀ i, i < n → Ev (fun k => g k (i + 1)) r → Ev (fun k => g k i) r) : ∀ d i, i + d = n → Ev (fun k => g k i) r
  | 0, i, h => by obtain rfl : i = n := by omega
                  exact hend
  | d + 1, i, h => hstep i (by omega) (ev_on n g r hend hstep d (i + 1) (by omega))
theorem same_tags (l : List S130) (hl : Len l.length) : Ev (fun k => mapmakerref14_SameTags.f k l l) true := by
  unfold Len at hl
  unfold mapmakerref14_SameTags.f
  simp only [if_true]
  exact ev_on l.length (fun k i => mapmakerref14_SameTags.l0 k l l (i : Int)) true
    (Ev.step (f := fun _ => some true) (fun k => by simp only [mapmakerref14_SameTags.l0]; rw [if_neg (by omega)]) (Ev.now _))
    (fun i hi ih => Ev.step (fun k => by simp only [mapmakerref14_SameTags.l0]; rw [if_pos (by omega), if_pos (by omega), if_pos (by omega), if_neg (by simp), wrn i (by omega)]) ih)
    l.length 0 (by omega)
theorem same_node (x : S53) (h : Len x.f2.length) : Ev (fun k => mapmakerref14_SameNode.f k x.f0 x.f1.f0 x.f1.f1 x.f2 x.f0 x.f1.f0 x.f1.f1 x.f2) true := by
  unfold mapmakerref14_SameNode.f
  simp only [if_true, beq_self_eq_true, Bool.and_self]
  exact Ev.bind (same_tags x.f2 h) (Ev.now _)
theorem same_way (x : S56) (h1 : Len x.f1.length) (h : Len x.f2.length) : Ev (fun k => mapmakerref14_SameWay.f k x.f0 x.f1 x.f2 x.f0 x.f1 x.f2) true := by
  unfold Len at h1
  unfold mapmakerref14_SameWay.f
  simp only [if_true]
  refine Ev.bind (same_tags x.f2 h) ?_
  refine Ev.step (fun k => by simp only [mapmakerref14_SameWay.j0, Bool.not_true, Bool.false_eq_true, if_false] <;> rfl) ?_
  exact ev_on x.f1.length (fun k i => mapmakerref14_SameWay.l0 k (i : Int) x.f0 x.f1 x.f2 x.f0 x.f1 x.f2) true
    (Ev.step (f := fun _ => some true) (fun k => by simp only [mapmakerref14_SameWay.l0]; rw [if_neg (by omega)]) (Ev.now _))
    (fun i hi ih => Ev.step (fun k => by simp only [mapmakerref14_SameWay.l0]; rw [if_pos (by omega), if_pos (by omega), if_pos (by omega), if_pos trivial, wrn i (by omega)]) ih)
    x.f1.length 0 (by omega)
theorem same_rel (x : S59) (h1 : Len x.f1.length) (h : Len x.f2.length) : Ev (fun k => mapmakerref14_SameRel.f k x.f0 x.f1 x.f2 x.f0 x.f1 x.f2) true := by
  unfold Len at h1
  unfold mapmakerref14_SameRel.f
  simp only [if_true]
  refine Ev.bind (same_tags x.f2 h) ?_
  refine Ev.step (fun k => by simp only [mapmakerref14_SameRel.j0, Bool.not_true, Bool.false_eq_true, if_false] <;> rfl) ?_
  exact ev_on x.f1.length (fun k i => mapmakerref14_SameRel.l0 k (i : Int) x.f0 x.f1 x.f2 x.f0 x.f1 x.f2) true
    (Ev.step (f := fun _ => some true) (fun k => by simp only [mapmakerref14_SameRel.l0]; rw [if_neg (by omega)]) (Ev.now _))
    (fun i hi ih => Ev.step (fun k => by simp only [mapmakerref14_SameRel.l0]; rw [if_pos (by omega), if_pos (by omega), if_pos (by omega), if_neg (by simp), wrn i (by omega)]) ih)
    x.f1.length 0 (by omega)
theorem same_data (x : S26) (hx : wfD x) : Ev (fun k => mapmakerref14_Same.f k x.f0 x.f1 x.f2 x.f0 x.f1 x.f2) true := by
  obtain ⟨⟨hl0, hw0⟩, ⟨hl1, hw1⟩, hl2, hw2⟩ := hx
  unfold Len at hl0 hl1 hl2
  unfold mapmakerref14_Same.f
  simp only [if_true, bne_self_eq_false]
  refine Ev.step (fun k => by simp only [mapmakerref14_Same.j0, Bool.false_eq_true, if_false] <;> rfl) ?_
  have g2 := ev_on x.f2.length (fun k i => mapmakerref14_Same.l2 k (i : Int) x.f0 x.f1 x.f2 x.f0 x.f1 x.f2) true
    (Ev.step (f := fun _ => some true) (fun k => by simp only [mapmakerref14_Same.l2]; rw [if_neg (by omega)]) (Ev.now _))
    (fun i hi ih => by
      have hw := hw2 _ (List.getElem_mem hi)
      refine Ev.step (fun k => by simp only [mapmakerref14_Same.l2]; rw [if_pos (by omega), if_pos (by omega), if_pos (by omega), rd59' x.f2 i hi, wrn i (by omega)]) ?_
      refine Ev.bind (same_rel _ hw.2.1.1 hw.2.2) ?_
      simp only [if_true]; exact ih) x.f2.length 0 (by omega)
  have g1 := ev_on x.f1.length (fun k i => mapmakerref14_Same.l1 k (i : Int) x.f0 x.f1 x.f2 x.f0 x.f1 x.f2) true
    (Ev.step (fun k => by simp only [mapmakerref14_Same.l1]; rw [if_neg (by omega)]; rfl) g2)
    (fun i hi ih => by
      have hw := hw1 _ (List.getElem_mem hi)
      refine Ev.step (fun k => by simp only [mapmakerref14_Same.l1]; rw [if_pos (by omega), if_pos (by omega), if_pos (by omega), rd56' x.f1 i hi, wrn i (by omega)]) ?_
      refine Ev.bind (same_way _ hw.2.1.1 hw.2.2) ?_
      simp only [if_true]; exact ih) x.f1.length 0 (by omega)
  exact ev_on x.f0.length (fun k i => mapmakerref14_Same.l0 k (i : Int) x.f0 x.f1 x.f2 x.f0 x.f1 x.f2) true
    (Ev.step (fun k => by simp only [mapmakerref14_Same.l0]; rw [if_neg (by omega)]; rfl) g1)
    (fun i hi ih => by
      have hw := hw0 _ (List.getElem_mem hi)
      refine Ev.step (fun k => by simp only [mapmakerref14_Same.l0]; rw [if_pos (by omega), if_pos (by omega), if_pos (by omega), rd53' x.f0 i hi, wrn i (by omega)]) ?_
      refine Ev.bind (same_node _ hw.2.2.2) ?_
      simp only [if_true]; exact ih) x.f0.length 0 (by omega)
end Go.Proofs.Ytefambkodalomaa.Pure
