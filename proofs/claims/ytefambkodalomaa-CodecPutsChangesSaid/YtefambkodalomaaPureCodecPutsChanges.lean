/- CodecPutsChanges: PutChanges returns the specified bytes for any change file of at most 12 changes with small objects. -/
import Derived.Test.YtefambkodalomaaPAllx31
import Derived.Test.YtefambkodalomaaPureFewC
import Derived.Test.YtefambkodalomaaPureLives
namespace Go.Proofs.Ytefambkodalomaa.Pure
open Go.RowKit Go.Proofs.Ytefambkodalomaa.PAll Go.Proofs.YtefambkodalomaaW.PrintWords Go.Proofs.YtefambkodalomaaW.PrintLast
theorem wfC_of {x : S65} (h : wf65 x) : wfC x :=
  ⟨wfI h.1, wfI h.2.1, let g := h.2.2.1; ⟨wfI g.1, wfI g.2.1.1, wfI g.2.1.2, g.2.2.1⟩, let g := h.2.2.2.1; ⟨wfI g.1, ⟨g.2.1.1, fun z hz => wfI (g.2.1.2 z hz)⟩, g.2.2.1⟩,
    let g := h.2.2.2.2; ⟨wfI g.1, ⟨g.2.1.1, fun z hz => ⟨wfI (g.2.1.2 z hz).1.1, wfI (g.2.1.2 z hz).1.2⟩⟩, g.2.2.1⟩⟩
theorem CodecPutsChanges : mapmakerlaw16_CodecPutsChanges.Pure := by
  intro l w
  refine Ev.rounds (g := fun k => mapmakerlaw16_CodecPutsChanges.f k l) ?_
  have hL : Ev (fun k => (mapmakerlaw16_lives.f k).bind fun t => some t) true := Ev.bind lives_ev (Ev.now true)
  obtain ⟨b, hb, hf⟩ := few_changes l
  unfold mapmakerlaw16_CodecPutsChanges.f
  refine Ev.bind hb ?_
  cases b with
  | false => simp only [Bool.false_eq_true, if_false]; exact hL
  | true =>
    have hw : ∀ x ∈ l, wfC x := fun x hx => wfC_of (w.2 x hx)
    have hlen := encChanges_le (hf rfl).1 hw (hf rfl).2
    simp only [if_true]
    refine Ev.bind (put_changes l w.1 hw (by omega)) (Ev.bind (ref_changes l w.1 hw (by omega)) ?_)
    simp only [if_true]
    exact hL
end Go.Proofs.Ytefambkodalomaa.Pure
