/- c16, plain: what Few lets in of change files is small, and the reference writes the same change file. -/
import Derived.Test.YtefambkodalomaaPureFew
import Derived.Test.YtefambkodalomaaPureEncC
import Derived.Test.YtefambkodalomaaPureEncRef
import Derived.Test.YtefambkodalomaaPAllx28
import Derived.Test.YtefambkodalomaaPAllx30
namespace Go.Proofs.Ytefambkodalomaa.Pure
open Go.RowKit Go.Proofs.Ytefambkodalomaa.PAll Go.Proofs.YtefambkodalomaaW.PrintWords Go.Proofs.YtefambkodalomaaW.PrintLast Go.Proofs.YtefambkodalomaaW.PrintMore Go.Proofs.YtefambkodalomaaG
set_option linter.unusedVariables false
set_option linter.unusedSimpArgs false
def fC (x : S65) : Prop := fTags x.f2.f2 ∧ (x.f3.f1.length ≤ 12 ∧ fTags x.f3.f2) ∧ fR x.f4
theorem few_changes (l : List S65) : ∃ b, Ev (fun k => mapmakerlaw16_Few.f k l) b ∧ (b = true → l.length ≤ 12 ∧ ∀ x ∈ l, fC x) := by
  unfold mapmakerlaw16_Few.f
  by_cases h : (l.length : Int) > 12
  · simp only [if_pos h]; exact ⟨false, Ev.now _, fun h => by cases h⟩
  simp only [if_neg h]
  obtain ⟨b, hb, hr⟩ := ev_ex l.length (fun k i => mapmakerlaw16_Few.l0 k l (i : Int)) (fun i => ∀ h : i < l.length, fC l[i]) True
    ⟨true, Ev.step (f := fun _ => some true) (fun k => by simp only [mapmakerlaw16_Few.l0]; rw [if_neg (by omega)]) (Ev.now _), fun _ => trivial⟩
    (fun i hi => by
      obtain ⟨b, hb, hf⟩ := few_ev ⟨[l[i].f2], [l[i].f3], [l[i].f4]⟩
      cases b with
      | false => exact .inl (Ev.step (fun k => by simp only [mapmakerlaw16_Few.l0]; rw [if_pos (by omega), if_pos (by omega), rd65' l i hi]) (Ev.bind hb (by simp only [Bool.false_eq_true, if_false]; exact Ev.now _)))
      | true =>
        obtain ⟨_, h1, h2, h3⟩ := hf rfl
        refine .inr ⟨fun _ => ⟨h1 _ (by simp), h2 _ (by simp), h3 _ (by simp)⟩, fun r ih => Ev.step (fun k => by simp only [mapmakerlaw16_Few.l0]; rw [if_pos (by omega), if_pos (by omega), rd65' l i hi, wrn i (by omega)]) (Ev.bind hb (by simp only [if_true]; exact ih))⟩)
    l.length 0 (by omega)
  exact ⟨b, hb, fun h => ⟨by omega, all_mem fun j hj => (hr h).1 j (by omega) hj hj⟩⟩
theorem encNode_le {y : S53} (w : wfN y) (f : fTags y.f2) : (encNode y).length ≤ 8440 := by
  have i0 := encI_le w.1
  have i1 := encI_le w.2.1
  have i2 := encI_le w.2.2.1
  have t := encTags_le f
  unfold encNode
  simp only [List.length_append]; omega
theorem encWay_le {y : S56} (w : wfY y) (f : y.f1.length ≤ 12 ∧ fTags y.f2) : (encWay y).length ≤ 8550 := by
  have i0 := encI_le w.1
  have m := many_le encI 10 12 y.f1 f.1 (by decide) (fun z hz => encI_le (w.2.1.2 z hz))
  have t := encTags_le f.2
  unfold encWay
  simp only [List.length_append]; omega
theorem encRel_le {y : S59} (w : wfR y) (f : fR y) : (encRel y).length ≤ 10270 := by
  have i0 := encI_le w.1
  have m := many_le encMem 230 8 y.f1 f.1 (by decide) (fun z hz => by
    have v := w.2.1.2 z hz
    have i1 := encI_le v.1
    have i2 := encI_le v.2
    have t := encT_le (f.2.2 z hz)
    unfold encMem
    simp only [List.length_append]; omega)
  have t := encTags_le f.2.1
  unfold encRel
  simp only [List.length_append]; omega
theorem encChange_le {x : S65} (w : wfC x) (f : fC x) : (encChange x).length ≤ 10300 := by
  have i0 := encI_le w.1
  have i1 := encI_le w.2.1
  have a := encNode_le w.2.2.1 f.1
  have b := encWay_le w.2.2.2.1 f.2.1
  have c := encRel_le w.2.2.2.2 f.2.2
  have d := encI_le (refID_wf w)
  have o : (encObj x).length ≤ 10270 := by
    unfold encObj
    split
    · split
      · omega
      · split
        · omega
        · split <;> omega
    · simp
  unfold encChange
  simp only [List.length_append]; omega
theorem encChanges_le {l : List S65} (hl : l.length ≤ 12) (hw : ∀ x ∈ l, wfC x) (hf : ∀ x ∈ l, fC x) : (encChanges l).length ≤ 200000 := by
  have := many_le encChange 10300 12 l hl (by decide) (fun x hx => encChange_le (hw x hx) (hf x hx))
  unfold encChanges
  omega
theorem chk_ref {o d a b c e g : Int} {t t1 t2 : List S130} {l : List Int} {m : List S63} : mapmakerref15_Check.f o d a b c t e l t1 g m t2 = some (chkE o d) := chk_eqC (o := o) (d := d) (a := a) (b := b) (c := c) (e := e) (g := g) (t := t) (t1 := t1) (t2 := t2) (l := l) (m := m)
theorem ref_ref (x : S65) (hc : chkE x.f0 x.f1 = 0) : mapmakerref15_Ref.f x.f0 x.f1 x.f2.f0 x.f2.f1.f0 x.f2.f1.f1 x.f2.f2 x.f3.f0 x.f3.f1 x.f3.f2 x.f4.f0 x.f4.f1 x.f4.f2 = some (x.f1, refID x) := ref_eq x hc
theorem ref_changes (l : List S65) (hl : Len l.length) (hw : ∀ x ∈ l, wfC x) (hb : (encChanges l).length ≤ 4611686018427387904) : Ev (fun k => mapmakerref16_PutChanges.f k l) (mk (encChanges l)) := by
  unfold Len at hl
  unfold mapmakerref16_PutChanges.f
  unfold encChanges encMany at hb ⊢
  rw [List.length_append] at hb
  have h0 : (⟨#[]⟩ : ByteArray) = mk [] := rfl
  rw [h0]
  refine Ev.bind (ref_count [] l.length (by omega) (by simp; omega)) ?_
  rw [List.nil_append]
  have h := ev_puts l encChange [] (fun k i s => mapmakerref16_PutChanges.l0 k l s (i : Int)) []
    (fun c hc => Ev.step (f := fun _ => some (mk c)) (fun k => by simp only [mapmakerref16_PutChanges.l0]; rw [if_neg (by omega)]) (by rw [List.append_nil]; exact Ev.now _))
    (fun i hi c r hc ih => by
      refine Ev.step (fun k => by simp only [mapmakerref16_PutChanges.l0]; rw [if_pos (by omega), if_pos (by omega), rd65' l i hi, wrn i (by omega)]) ?_
      have hx := hw _ (List.getElem_mem hi)
      generalize l[i] = x at hx hc ih ⊢
      unfold encChange at hc ih
      rw [← List.append_assoc, ← List.append_assoc] at ih
      simp only [List.length_append] at hc
      refine Ev.bind (ref_int c x.f0 hx.1 (by omega)) (Ev.bind (ref_int _ x.f1 hx.2.1 (by simp only [List.length_append]; omega)) ?_)
      simp only [chk_ref, Option.bind_some]
      unfold encObj at hc ih
      have hl2 : (c ++ encI x.f0 ++ encI x.f1).length = c.length + (encI x.f0).length + (encI x.f1).length := by simp only [List.length_append]
      by_cases h1 : chkE x.f0 x.f1 = 0
      · simp only [if_pos h1] at hc ih ⊢
        by_cases h2 : x.f0 = 2
        · simp only [if_pos h2] at hc ih ⊢
          simp only [ref_ref x h1, Option.bind_some]
          exact Ev.bind (ref_int _ (refID x) (refID_wf hx) (by omega)) ih
        · simp only [if_neg h2] at hc ih ⊢
          by_cases h3 : x.f1 = 1
          · simp only [if_pos h3] at hc ih ⊢
            exact Ev.bind (ref_node _ x.f2 hx.2.2.1 (by omega)) ih
          · simp only [if_neg h3] at hc ih ⊢
            by_cases h4 : x.f1 = 2
            · simp only [if_pos h4] at hc ih ⊢
              exact Ev.bind (ref_way _ x.f3 hx.2.2.2.1 (by omega)) ih
            · simp only [if_neg h4] at hc ih ⊢
              exact Ev.bind (ref_rel _ x.f4 hx.2.2.2.2 (by omega)) ih
      · simp only [if_neg h1, List.append_nil] at hc ih ⊢
        exact ih)
    l.length 0 (encU l.length) (by omega) (by simp only [List.length_append, List.drop_zero, List.length_nil]; omega)
  simpa using h
end Go.Proofs.Ytefambkodalomaa.Pure
