/- c16, plain: the program's writer of change files. -/
import Derived.Test.YtefambkodalomaaPureEnc
import Derived.Test.YtefambkodalomaaPAllx11
import Derived.Test.YtefambkodalomaaPAllx10
namespace Go.Proofs.Ytefambkodalomaa.Pure
open Go.RowKit Go.Proofs.Ytefambkodalomaa.PAll Go.Proofs.YtefambkodalomaaW.PrintWords Go.Proofs.YtefambkodalomaaW.PrintLast Go.Proofs.YtefambkodalomaaW.PrintMore Go.Proofs.YtefambkodalomaaG
set_option linter.unusedVariables false
set_option linter.unusedSimpArgs false
theorem chk_eqC {o d a b c e g : Int} {t t1 t2 : List S130} {l : List Int} {m : List S63} : change_Check.f o d a b c t e l t1 g m t2 = some (chkE o d) := by
  unfold change_Check.f chkE
  by_cases h1 : o = 1
  · rw [if_pos h1]
    by_cases h2 : d < 1
    · rw [if_pos h2, if_neg (by omega)]
    · rw [if_neg h2]
      by_cases h3 : d > 3
      · rw [if_pos h3, if_neg (by omega)]
      · rw [if_neg h3, if_pos (by omega)]
  · rw [if_neg h1]
    by_cases h1 : o = 2
    · rw [if_pos h1]
      by_cases h2 : d < 1
      · rw [if_pos h2, if_neg (by omega)]
      · rw [if_neg h2]
        by_cases h3 : d > 3
        · rw [if_pos h3, if_neg (by omega)]
        · rw [if_neg h3, if_pos (by omega)]
    · rw [if_neg h1, if_neg (by omega)]
def refID (x : S65) : Int := if x.f1 = 1 then x.f2.f0 else if x.f1 = 2 then x.f3.f0 else x.f4.f0
def encObj (x : S65) : List UInt8 := if chkE x.f0 x.f1 = 0 then (if x.f0 = 2 then encI (refID x) else if x.f1 = 1 then encNode x.f2 else if x.f1 = 2 then encWay x.f3 else encRel x.f4) else []
def encChange (x : S65) : List UInt8 := encI x.f0 ++ encI x.f1 ++ encObj x
def encChanges : List S65 → List UInt8 := encMany encChange
def wfC (x : S65) : Prop := I64 x.f0 ∧ I64 x.f1 ∧ wfN x.f2 ∧ wfY x.f3 ∧ wfR x.f4
theorem rd65' (l : List S65) (i : Nat) (h : i < l.length) : rd_T65 l (i : Int) = l[i] := by
  unfold rd_T65; rw [Int.toNat_natCast, List.getD_eq_getElem?_getD, List.getElem?_eq_getElem h]; rfl
theorem ref_eq (x : S65) (hc : chkE x.f0 x.f1 = 0) : change_Ref.f x.f0 x.f1 x.f2.f0 x.f2.f1.f0 x.f2.f1.f1 x.f2.f2 x.f3.f0 x.f3.f1 x.f3.f2 x.f4.f0 x.f4.f1 x.f4.f2 = some (x.f1, refID x) := by
  unfold change_Ref.f refID
  rw [chk_eqC, Option.bind_some, if_pos hc]
  by_cases h1 : x.f1 = 1
  · rw [if_pos h1, if_pos h1]
  · rw [if_neg h1, if_neg h1]
    by_cases h2 : x.f1 = 2
    · rw [if_pos h2, if_pos h2]
    · rw [if_neg h2, if_neg h2]
theorem refID_wf {x : S65} (hx : wfC x) : I64 (refID x) := by
  unfold refID
  split
  · exact hx.2.2.1.1
  · split
    · exact hx.2.2.2.1.1
    · exact hx.2.2.2.2.1
theorem put_changes (l : List S65) (hl : Len l.length) (hw : ∀ x ∈ l, wfC x) (hb : (encChanges l).length ≤ 4611686018427387904) : Ev (fun k => codec_PutChanges.f k l) (mk (encChanges l)) := by
  unfold Len at hl
  unfold codec_PutChanges.f
  unfold encChanges encMany at hb ⊢
  rw [List.length_append] at hb
  have h0 : (⟨#[]⟩ : ByteArray) = mk [] := rfl
  rw [h0]
  refine Ev.bind (put_count [] l.length (by omega) (by simp; omega)) ?_
  rw [List.nil_append]
  have h := ev_puts l encChange [] (fun k i s => codec_PutChanges.l0 k l (l.length : Int) (i : Int) s) []
    (fun c hc => Ev.step (f := fun _ => some (mk c)) (fun k => by simp only [codec_PutChanges.l0]; rw [if_neg (by omega)]) (by rw [List.append_nil]; exact Ev.now _))
    (fun i hi c r hc ih => by
      refine Ev.step (fun k => by simp only [codec_PutChanges.l0]; rw [if_pos (by omega), if_pos (by omega), if_pos (by omega), rd65' l i hi, wrn i (by omega)]) ?_
      have hx := hw _ (List.getElem_mem hi)
      generalize l[i] = x at hx hc ih ⊢
      unfold encChange at hc ih
      rw [← List.append_assoc] at ih
      rw [List.length_append] at hc
      refine Ev.bind (put_two c x.f0 x.f1 hx.1 hx.2.1 (by omega)) ?_
      simp only [chk_eqC, Option.bind_some]
      unfold encObj at hc ih
      have hl2 : (c ++ (encI x.f0 ++ encI x.f1)).length = c.length + (encI x.f0 ++ encI x.f1).length := List.length_append
      by_cases h1 : chkE x.f0 x.f1 = 0
      · simp only [if_pos h1] at hc ih ⊢
        by_cases h2 : x.f0 = 2
        · simp only [if_pos h2] at hc ih ⊢
          simp only [ref_eq x h1, Option.bind_some]
          exact Ev.bind (put_one _ (refID x) (refID_wf hx) (by omega)) ih
        · simp only [if_neg h2] at hc ih ⊢
          by_cases h3 : x.f1 = 1
          · simp only [if_pos h3] at hc ih ⊢
            exact Ev.bind (put_node _ x.f2 hx.2.2.1 (by omega)) ih
          · simp only [if_neg h3] at hc ih ⊢
            by_cases h4 : x.f1 = 2
            · simp only [if_pos h4] at hc ih ⊢
              exact Ev.bind (put_way _ x.f3 hx.2.2.2.1 (by omega)) ih
            · simp only [if_neg h4] at hc ih ⊢
              exact Ev.bind (put_rel _ x.f4 hx.2.2.2.2 (by omega)) ih
      · simp only [if_neg h1, List.append_nil] at hc ih ⊢
        exact ih)
    l.length 0 (encU l.length) (by omega) (by simp only [List.length_append, List.drop_zero, List.length_nil]; omega)
  simpa using h
end Go.Proofs.Ytefambkodalomaa.Pure
