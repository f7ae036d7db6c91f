/- CodecCuts: the bytes of a valid dataset without some of their last ones, or with others after them, are not decoded (up to 20 nodes, 12 ways, 8 relations; up to 100 more bytes). -/
import Derived.Test.YtefambkodalomaaPAllx18
import Derived.Test.YtefambkodalomaaPureRd2
import Derived.Test.YtefambkodalomaaPureBack
import Derived.Test.YtefambkodalomaaPureChk
import Derived.Test.YtefambkodalomaaPureLives
namespace Go.Proofs.Ytefambkodalomaa.Pure
open Go.RowKit Go.Proofs.Ytefambkodalomaa.PAll Go.Proofs.YtefambkodalomaaW.PrintWords Go.Proofs.YtefambkodalomaaW.PrintLast
theorem wfD_of {x : S26} (h : wf26 x) : wfD x :=
  ⟨⟨h.1.1, fun y hy => let g := h.1.2 y hy; ⟨wfI g.1, wfI g.2.1.1, wfI g.2.1.2, g.2.2.1⟩⟩, ⟨h.2.1.1, fun y hy => let g := h.2.1.2 y hy; ⟨wfI g.1, ⟨g.2.1.1, fun z hz => wfI (g.2.1.2 z hz)⟩, g.2.2.1⟩⟩,
    ⟨h.2.2.1, fun y hy => let g := h.2.2.2 y hy; ⟨wfI g.1, ⟨g.2.1.1, fun z hz => ⟨wfI (g.2.1.2 z hz).1.1, wfI (g.2.1.2 z hz).1.2⟩⟩, g.2.2.1⟩⟩⟩
theorem idW_of {x : S26} (h : wf26 x) : idW x :=
  ⟨fun y hy => (h.1.2 y hy).1, fun y hy => ⟨(h.2.1.2 y hy).1, (h.2.1.2 y hy).2.1.2⟩, fun y hy m hm => ((h.2.2.2 y hy).2.1.2 m hm).1.2⟩
theorem cut_long {l m : List UInt8} {x : S26} (hx : wD x) (hl : l = encData x) (hm : 0 < m.length) : fin (mk (l ++ m)) (rData (mk (l ++ m)) 0) = .error 5 := by
  subst hl
  rw [data_giv (mk (encData x ++ m)) 0 x (by omega) hx (at_mk _ _)]
  show (if (0 : Int) + ((encData x).length : Int) < ((mk (encData x ++ m)).size : Int) then Except.error 5 else Except.ok x) = _
  rw [if_pos (by rw [mk_size, List.length_append]; push_cast; omega)]
theorem cut_short {x : S26} (hx : wD x) (n : Nat) (hn : n < (encData x).length) : fin ((mk (encData x)).extract 0 n) (rData ((mk (encData x)).extract 0 n) 0) = .error 3 := by
  have hsz : ((mk (encData x)).extract 0 n).size = n := by rw [ByteArray.size_extract, mk_size]; omega
  have hb : Beg (mk (encData x)) ((mk (encData x)).extract 0 n) := ⟨by rw [hsz], by rw [hsz, mk_size]; omega⟩
  have h0 := at_mk (encData x) []
  rw [List.append_nil] at h0
  have h := data_giv (mk (encData x)) 0 x (by omega) hx h0
  have h3 := ((rData_pre hb) 0 x _ (by omega) (by omega) h).2 (by rw [hsz]; omega)
  rw [h3]
  rfl
theorem CodecCuts : mapmakerlaw16_CodecCuts.Pure := by
  intro x n more w hn hm
  refine Ev.rounds (g := fun k => mapmakerlaw16_CodecCuts.f k x.f0 x.f1 x.f2 n more) ?_
  have hL : Ev (fun k => (mapmakerlaw16_lives.f k).bind fun t => some t) true := Ev.bind lives_ev (Ev.now true)
  have hj0 : Ev (fun k => mapmakerlaw16_CodecCuts.j0 k n more true x.f0 x.f1 x.f2) true := Ev.step (fun k => by simp only [mapmakerlaw16_CodecCuts.j0, if_true] <;> rfl) hL
  have hw := wfD_of w
  obtain ⟨b, hb, hf⟩ := few_ev x
  obtain ⟨e, he, hc⟩ := chk_data x hw (idW_of w)
  unfold mapmakerlaw16_CodecCuts.f
  refine Ev.bind hb ?_
  cases b with
  | false => simp only [Bool.false_eq_true, if_false]; exact hj0
  | true =>
    simp only [if_true]
    refine Ev.bind he ?_
    by_cases c0 : e = 0
    · simp only [if_pos c0]
      by_cases c1 : (more.size : Int) = 0
      · simp only [if_pos c1]; exact hj0
      simp only [if_neg c1]
      by_cases c2 : (more.size : Int) > 100
      · simp only [decide_eq_true c2]; exact hj0
      simp only [decide_eq_false c2]
      have hx := hc c0
      have hlen := encData_le hw (hf rfl)
      refine Ev.step (fun k => by simp only [mapmakerlaw16_CodecCuts.j0, Bool.false_eq_true, if_false] <;> rfl) ?_
      refine Ev.bind (put_data x hw (by omega)) ?_
      simp only [if_pos (show (mk (encData x)).size + more.size ≤ 9223372036854775807 by rw [mk_size]; omega)]
      have em : mk (encData x) ++ more = mk (encData x ++ more.data.toList) := by rw [← mk_append, mk_data]
      have ed : more.data.toList.length = more.size := rfl
      have hs1 : ((mk (encData x) ++ more).size : Int) ≤ 140737488355328 := by rw [em, mk_size, List.length_append, ed]; push_cast; omega
      refine Ev.bind (p_GetData hs1) ?_
      rw [em, cut_long hx rfl (by rw [ed]; omega)]
      simp only [dataR, if_true]
      have hsz : ((mk (encData x)).size : Int) = (encData x).length := by rw [mk_size]
      have hj1 : Ev (fun k => mapmakerlaw16_CodecCuts.j1 k n (mk (encData x)) false) true := Ev.step (fun k => by simp only [mapmakerlaw16_CodecCuts.j1, Bool.false_eq_true, if_false] <;> rfl) hL
      by_cases c3 : n ≥ 0
      · simp only [if_pos c3]
        by_cases c4 : n < ((mk (encData x)).size : Int)
        · simp only [decide_eq_true c4]
          refine Ev.step (fun k => by simp only [mapmakerlaw16_CodecCuts.j1, if_true]; rw [if_pos (by omega), if_pos (by omega)]) ?_
          have hs2 : (((mk (encData x)).extract 0 n.toNat).size : Int) ≤ 140737488355328 := by rw [ByteArray.size_extract]; omega
          refine Ev.bind (p_GetData hs2) ?_
          rw [cut_short hx n.toNat (by omega)]
          simp only [dataR, if_true, List.length_nil]
          exact hL
        · simp only [decide_eq_false c4]; exact hj1
      · simp only [if_neg c3]; exact hj1
    · simp only [if_neg c0]; exact hj0
end Go.Proofs.Ytefambkodalomaa.Pure
