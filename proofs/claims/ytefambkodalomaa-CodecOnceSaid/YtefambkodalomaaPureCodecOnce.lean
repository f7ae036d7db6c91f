/- CodecOnce: bytes that are decoded are the encoding of the result, for strings of at most 3,000 bytes. -/
import Derived.Test.YtefambkodalomaaPAllx14
import Derived.Test.YtefambkodalomaaPureRd2
import Derived.Test.YtefambkodalomaaPureOnce
import Derived.Test.YtefambkodalomaaPureLives
namespace Go.Proofs.Ytefambkodalomaa.Pure
open Go.RowKit Go.Proofs.Ytefambkodalomaa.PAll Go.Proofs.YtefambkodalomaaW.PrintWords Go.Proofs.YtefambkodalomaaW.PrintLast
theorem dataR_ok {x : Except Int S26} (h : (dataR x).2.2.2 = 0) (he : ∀ e, x = .error e → e ≠ 0) : ∃ d, x = .ok d := by
  cases x with
  | error e => exact absurd h (he e rfl)
  | ok d => exact ⟨d, rfl⟩
theorem changesR_ok {x : Except Int (List S65)} (h : (changesR x).2 = 0) (he : ∀ e, x = .error e → e ≠ 0) : ∃ d, x = .ok d := by
  cases x with
  | error e => exact absurd h (he e rfl)
  | ok d => exact ⟨d, rfl⟩
theorem fin_err {α : Type} {s : ByteArray} {x : Except Int (α × Int)} (hx : ∀ e, x = .error e → e ≠ 0) : ∀ e, fin s x = .error e → e ≠ 0 := by
  intro e h
  cases x with
  | error e' =>
    have h : Except.error e' = (Except.error e : Except Int α) := h
    injection h with h; subst h; exact hx _ rfl
  | ok a =>
    have h : (if a.2 < (s.size : Int) then (Except.error 5 : Except Int α) else .ok a.1) = .error e := h
    by_cases c : a.2 < (s.size : Int)
    · rw [if_pos c] at h; injection h with h; subst h; decide
    · rw [if_neg c] at h; cases h
theorem ok_err {α : Type} {a : α} {q : Int} : ∀ e, (Except.ok (a, q) : Except Int (α × Int)) = .error e → e ≠ 0 := fun _ h => by cases h
theorem list_err {α : Type} {f : Int → Except Int (α × Int)} (hf : ∀ p e, f p = .error e → e ≠ 0) : ∀ n p e, rList f n p = .error e → e ≠ 0
  | 0, p => ok_err
  | n + 1, p => rB_err (hf p) fun a q => rB_err (list_err hf n q) fun _ _ => ok_err
theorem many_err {α : Type} {s : ByteArray} {m : Int} {f : Int → Except Int (α × Int)} (hf : ∀ p e, f p = .error e → e ≠ 0) : ∀ p e, rMany s m f p = .error e → e ≠ 0 := fun p => rB_err (fun _ h => rCount_err h) fun n q => list_err hf _ q
theorem rTags_err {s : ByteArray} : ∀ p e, rTags s p = .error e → e ≠ 0 := many_err fun p => rB_err rText_err fun _ _ => rB_err rText_err fun _ _ => ok_err
theorem rNode_err {s : ByteArray} : ∀ p e, rNode s p = .error e → e ≠ 0 := fun p => rB_err rInt_err fun _ _ => rB_err rInt_err fun _ _ => rB_err rInt_err fun _ q => rB_err (rTags_err q) fun _ _ => ok_err
theorem rWay_err {s : ByteArray} : ∀ p e, rWay s p = .error e → e ≠ 0 := fun p => rB_err rInt_err fun _ q => rB_err (many_err (fun _ => rInt_err) q) fun _ q => rB_err (rTags_err q) fun _ _ => ok_err
theorem rRel_err {s : ByteArray} : ∀ p e, rRel s p = .error e → e ≠ 0 := fun p => rB_err rInt_err fun _ q => rB_err (many_err (fun _ => rB_err rInt_err fun _ _ => rB_err rInt_err fun _ _ => rB_err rText_err fun _ _ => ok_err) q) fun _ q => rB_err (rTags_err q) fun _ _ => ok_err
theorem rData_err {s : ByteArray} : ∀ p e, rData s p = .error e → e ≠ 0 := fun p => rB_err (many_err rNode_err p) fun _ q => rB_err (many_err rWay_err q) fun _ q => rB_err (many_err rRel_err q) fun _ _ => ok_err
theorem rChange_err {s : ByteArray} : ∀ p e, rChange s p = .error e → e ≠ 0 := fun p => rB_err rInt_err fun o _ => rB_err rInt_err fun d q => by
  by_cases h : chkE o d = 0
  · simp only [if_pos h]
    unfold rObj
    split
    · split
      · exact rB_err (rNode_err q) fun _ _ => ok_err
      · split
        · exact rB_err (rWay_err q) fun _ _ => ok_err
        · exact rB_err (rRel_err q) fun _ _ => ok_err
    · exact rB_err rInt_err fun _ _ => ok_err
  · simp only [if_neg h]
    intro e he
    injection he with he; subst he; exact h
theorem rChanges_err {s : ByteArray} : ∀ p e, rChanges s p = .error e → e ≠ 0 := many_err rChange_err
theorem CodecOnce : mapmakerlaw16_CodecOnce.Pure := by
  intro s hs0
  refine Ev.rounds (g := fun k => mapmakerlaw16_CodecOnce.f k s) ?_
  have hs : (s.size : Int) ≤ 140737488355328 := by omega
  have hL : Ev (fun k => (mapmakerlaw16_lives.f k).bind fun t => some t) true := Ev.bind lives_ev (Ev.now true)
  unfold mapmakerlaw16_CodecOnce.f
  by_cases hbig : (s.size : Int) > 3000
  · simp only [if_pos hbig]; exact hL
  simp only [if_neg hbig]
  refine Ev.bind (p_GetData hs) (Ev.bind (p_GetChanges hs) ?_)
  have hC : Ev (fun k => if (changesR (fin s (rChanges s 0))).2 = 0 then ((codec_PutChanges.f k (changesR (fin s (rChanges s 0))).1).bind fun t961 => (if t961.toList = s.toList then ((mapmakerlaw16_lives.f k).bind fun t962 => (some t962)) else (some false))) else ((mapmakerlaw16_lives.f k).bind fun t963 => (some t963))) true := by
    by_cases h : (changesR (fin s (rChanges s 0))).2 = 0
    · simp only [if_pos h]
      obtain ⟨d, hd⟩ := changesR_ok h (fin_err (rChanges_err 0))
      obtain ⟨he, hw⟩ := fin_reads (rChanges_fwd s) (rChanges_reads s) hd
      rw [hd]
      have hlen : (encChanges d).length = s.size := by rw [← mk_size, ← he]
      refine Ev.bind (put_changes d (by unfold Len; have := hw.1; omega) hw.2 (by omega)) ?_
      rw [← he]
      simp only [if_true]
      exact hL
    · simp only [if_neg h]; exact hL
  by_cases h : (dataR (fin s (rData s 0))).2.2.2 = 0
  · simp only [if_pos h]
    obtain ⟨d, hd⟩ := dataR_ok h (fin_err (rData_err 0))
    obtain ⟨he, hw⟩ := fin_reads (rData_fwd s) (rData_reads s) hd
    rw [hd]
    have hlen : (encData d).length = s.size := by rw [← mk_size, ← he]
    refine Ev.bind (put_data d (wD_wf hw) (by omega)) ?_
    rw [← he]
    simp only [if_true]
    exact hC
  · simp only [if_neg h]; exact hC
end Go.Proofs.Ytefambkodalomaa.Pure
