/- CodecGetsData: GetData returns the dataset that any bytes encode, or the first error, for strings of at most 3,000 bytes. -/
import Derived.Test.YtefambkodalomaaPAllx27
import Derived.Test.YtefambkodalomaaPureRd2
import Derived.Test.YtefambkodalomaaPureRdData
import Derived.Test.YtefambkodalomaaPureSameRef
import Derived.Test.YtefambkodalomaaPureOnce
import Derived.Test.YtefambkodalomaaPureLives
namespace Go.Proofs.Ytefambkodalomaa.Pure
open Go.RowKit Go.Proofs.Ytefambkodalomaa.PAll Go.Proofs.YtefambkodalomaaW.PrintWords Go.Proofs.YtefambkodalomaaW.PrintLast
theorem fin_wf {s : ByteArray} {d : S26} (h : fin s (rData s 0) = .ok d) : wfD d := wD_wf (fin_reads (rData_fwd s) (rData_reads s) h).2
theorem CodecGetsData : mapmakerlaw16_CodecGetsData.Pure := by
  intro s hs0
  refine Ev.rounds (g := fun k => mapmakerlaw16_CodecGetsData.f k s) ?_
  have hs : (s.size : Int) ≤ 140737488355328 := by omega
  have hL : Ev (fun k => (mapmakerlaw16_lives.f k).bind fun t => some t) true := Ev.bind lives_ev (Ev.now true)
  unfold mapmakerlaw16_CodecGetsData.f
  by_cases hbig : (s.size : Int) > 3000
  · simp only [if_pos hbig]; exact hL
  simp only [if_neg hbig]
  refine Ev.bind (p_GetData hs) (Ev.bind (r_GetData hs) ?_)
  have e : dataF (fin s (rData s 0)) = dataR (fin s (rData s 0)) := by cases fin s (rData s 0) <;> rfl
  rw [e]
  simp only [if_true]
  have hsame : Ev (fun k => mapmakerref14_Same.f k (dataR (fin s (rData s 0))).1 (dataR (fin s (rData s 0))).2.1 (dataR (fin s (rData s 0))).2.2.1 (dataR (fin s (rData s 0))).1 (dataR (fin s (rData s 0))).2.1 (dataR (fin s (rData s 0))).2.2.1) true := by
    cases h : fin s (rData s 0) with
    | error e => exact same_data ⟨[], [], []⟩ ⟨⟨by simp [Len], by simp⟩, ⟨by simp [Len], by simp⟩, by simp [Len], by simp⟩
    | ok d => exact same_data d (fin_wf h)
  refine Ev.bind hsame ?_
  simp only [if_true]
  exact hL
end Go.Proofs.Ytefambkodalomaa.Pure
