/- CodecPutsData: PutData returns the specified bytes for any dataset of at most 20 nodes, 12 ways and 8 relations. -/
import Derived.Test.YtefambkodalomaaPAllx18
import Derived.Test.YtefambkodalomaaPureEncRef
import Derived.Test.YtefambkodalomaaPureFew
import Derived.Test.YtefambkodalomaaPureLives
namespace Go.Proofs.Ytefambkodalomaa.Pure
open Go.RowKit Go.Proofs.Ytefambkodalomaa.PAll Go.Proofs.YtefambkodalomaaW.PrintWords Go.Proofs.YtefambkodalomaaW.PrintLast
theorem wfD_of {x : S26} (h : wf26 x) : wfD x :=
  ⟨⟨h.1.1, fun y hy => let g := h.1.2 y hy; ⟨wfI g.1, wfI g.2.1.1, wfI g.2.1.2, g.2.2.1⟩⟩, ⟨h.2.1.1, fun y hy => let g := h.2.1.2 y hy; ⟨wfI g.1, ⟨g.2.1.1, fun z hz => wfI (g.2.1.2 z hz)⟩, g.2.2.1⟩⟩,
    ⟨h.2.2.1, fun y hy => let g := h.2.2.2 y hy; ⟨wfI g.1, ⟨g.2.1.1, fun z hz => ⟨wfI (g.2.1.2 z hz).1.1, wfI (g.2.1.2 z hz).1.2⟩⟩, g.2.2.1⟩⟩⟩
theorem CodecPutsData : mapmakerlaw16_CodecPutsData.Pure := by
  intro x w
  refine Ev.rounds (g := fun k => mapmakerlaw16_CodecPutsData.f k x.f0 x.f1 x.f2) ?_
  have hL : Ev (fun k => (mapmakerlaw16_lives.f k).bind fun t => some t) true := Ev.bind lives_ev (Ev.now true)
  obtain ⟨b, hb, hf⟩ := few_ev x
  unfold mapmakerlaw16_CodecPutsData.f
  refine Ev.bind hb ?_
  cases b with
  | false => simp only [Bool.false_eq_true, if_false]; exact hL
  | true =>
    have hw := wfD_of w
    have hlen := encData_le hw (hf rfl)
    simp only [if_true]
    refine Ev.bind (put_data x hw (by omega)) (Ev.bind (ref_data x hw (by omega)) ?_)
    simp only [if_true]
    exact hL
end Go.Proofs.Ytefambkodalomaa.Pure
