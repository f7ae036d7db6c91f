/- c14, plain: Refs, Has, Tags: the program and its reference answer alike. -/
import Derived.Test.YtgenbepicnbecaaPureSame
import Derived.Test.YtgenbepicnbecaaPAllx0
import Derived.Test.YtgenbepicnbecaaPAllx5
import Derived.Test.YtgenbepicnbecaaPAllx9
import Derived.Test.YtgenbepicnbecaaPAllx10
import Derived.Test.YtgenbepicnbecaaPAllx12
import Derived.Test.YtgenbepicnbecaaPAllx15
import Derived.Test.YtgenbepicnbecaaPAllx22
import Derived.Test.YtgenbepicnbecaaPAllx1
import Derived.Test.YtgenbepicnbecaaPAllx3
namespace Go.Proofs.Ytgenbepicnbecaa.Pure
open Go.RowKit Go.Proofs.Ytgenbepicnbecaa.PAll Go.Proofs.YtgenbepicnbecaaW.PrintWords Go.Proofs.YtgenbepicnbecaaW.PrintLast
set_option linter.unusedVariables false
set_option linter.unusedSimpArgs false
def r39 (l : List S39) : List S34 := l.map fun x => ⟨1, x.f0⟩
def r45 (l : List S45) : List S34 := l.map fun x => ⟨2, x.f0⟩
def r51 (l : List S51) : List S34 := l.map fun x => ⟨3, x.f0⟩
def refsL (l0 : List S39) (l1 : List S45) (l2 : List S51) : List S34 := r39 l0 ++ r45 l1 ++ r51 l2
theorem prog_refs_2 (l0 : List S39) (l1 : List S45) (l2 : List S51) (hl0 : l0.length ≤ 1000000) (hl1 : l1.length ≤ 1000000) (hl2 : l2.length ≤ 1000000) : ∀ d i (acc : List S34), i ≤ l2.length → l2.length - i = d → acc.length + (l2.length - i) + (0) ≤ 1000000 → Ev (fun k => data_Refs.l2 k acc l2 (l2.length : Int) (i : Int)) (acc ++ r51 (l2.drop i)) := by
  intro d
  induction d with
  | zero =>
    intro i acc hi hd hB
    obtain rfl : i = l2.length := by omega
    have e : r51 (l2.drop l2.length) = [] := by rw [List.drop_length]; rfl
    rw [e, List.append_nil]
    exact Ev.step (f := fun _ => some acc) (fun k => by simp only [data_Refs.l2]; rw [if_neg (by omega)]) (Ev.now acc)
  | succ d ih =>
    intro i acc hi hd hB
    have hlt : i < l2.length := by omega
    have h := ih (i + 1) (acc ++ [⟨3, l2[i].f0⟩]) (by omega) (by omega) (by rw [List.length_append, List.length_singleton]; omega)
    have e : acc ++ r51 (l2.drop i) = acc ++ [⟨3, l2[i].f0⟩] ++ r51 (l2.drop (i + 1)) := by rw [List.drop_eq_getElem_cons hlt, List.append_assoc]; rfl
    rw [e]
    refine Ev.step (fun k => ?_) h
    simp only [data_Refs.l2]
    rw [if_pos (by omega), if_pos (by omega), if_pos (by omega), if_pos (by omega), rd51 l2 i hlt, wrap_succ i (by omega)]
theorem prog_refs_1 (l0 : List S39) (l1 : List S45) (l2 : List S51) (hl0 : l0.length ≤ 1000000) (hl1 : l1.length ≤ 1000000) (hl2 : l2.length ≤ 1000000) : ∀ d i (acc : List S34), i ≤ l1.length → l1.length - i = d → acc.length + (l1.length - i) + (l2.length) ≤ 1000000 → Ev (fun k => data_Refs.l1 k acc l1 (l1.length : Int) (i : Int) l0 l1 l2) (acc ++ r45 (l1.drop i) ++ r51 l2) := by
  intro d
  induction d with
  | zero =>
    intro i acc hi hd hB
    obtain rfl : i = l1.length := by omega
    have e : r45 (l1.drop l1.length) = [] := by rw [List.drop_length]; rfl
    rw [e, List.append_nil]
    have h := prog_refs_2 l0 l1 l2 hl0 hl1 hl2 l2.length 0 acc (by omega) (by omega) (by omega)
    rw [List.drop_zero] at h
    exact Ev.step (fun k => by simp only [data_Refs.l1]; rw [if_neg (by omega)]; rfl) h
  | succ d ih =>
    intro i acc hi hd hB
    have hlt : i < l1.length := by omega
    have h := ih (i + 1) (acc ++ [⟨2, l1[i].f0⟩]) (by omega) (by omega) (by rw [List.length_append, List.length_singleton]; omega)
    have e : acc ++ r45 (l1.drop i) = acc ++ [⟨2, l1[i].f0⟩] ++ r45 (l1.drop (i + 1)) := by rw [List.drop_eq_getElem_cons hlt, List.append_assoc]; rfl
    rw [e]
    refine Ev.step (fun k => ?_) h
    simp only [data_Refs.l1]
    rw [if_pos (by omega), if_pos (by omega), if_pos (by omega), if_pos (by omega), rd45 l1 i hlt, wrap_succ i (by omega)]
theorem prog_refs_0 (l0 : List S39) (l1 : List S45) (l2 : List S51) (hl0 : l0.length ≤ 1000000) (hl1 : l1.length ≤ 1000000) (hl2 : l2.length ≤ 1000000) : ∀ d i (acc : List S34), i ≤ l0.length → l0.length - i = d → acc.length + (l0.length - i) + (l1.length + l2.length) ≤ 1000000 → Ev (fun k => data_Refs.l0 k acc l0 (l0.length : Int) (i : Int) l0 l1 l2) (acc ++ r39 (l0.drop i) ++ r45 l1 ++ r51 l2) := by
  intro d
  induction d with
  | zero =>
    intro i acc hi hd hB
    obtain rfl : i = l0.length := by omega
    have e : r39 (l0.drop l0.length) = [] := by rw [List.drop_length]; rfl
    rw [e, List.append_nil]
    have h := prog_refs_1 l0 l1 l2 hl0 hl1 hl2 l1.length 0 acc (by omega) (by omega) (by omega)
    rw [List.drop_zero] at h
    exact Ev.step (fun k => by simp only [data_Refs.l0]; rw [if_neg (by omega)]; rfl) h
  | succ d ih =>
    intro i acc hi hd hB
    have hlt : i < l0.length := by omega
    have h := ih (i + 1) (acc ++ [⟨1, l0[i].f0⟩]) (by omega) (by omega) (by rw [List.length_append, List.length_singleton]; omega)
    have e : acc ++ r39 (l0.drop i) = acc ++ [⟨1, l0[i].f0⟩] ++ r39 (l0.drop (i + 1)) := by rw [List.drop_eq_getElem_cons hlt, List.append_assoc]; rfl
    rw [e]
    refine Ev.step (fun k => ?_) h
    simp only [data_Refs.l0]
    rw [if_pos (by omega), if_pos (by omega), if_pos (by omega), if_pos (by omega), rd39 l0 i hlt, wrap_succ i (by omega)]
theorem prog_refs (l0 : List S39) (l1 : List S45) (l2 : List S51) (hB : l0.length + l1.length + l2.length ≤ 1000000) : Ev (fun k => data_Refs.f k l0 l1 l2) (refsL l0 l1 l2) := by
  have h := prog_refs_0 l0 l1 l2 (by omega) (by omega) (by omega) l0.length 0 [] (by omega) (by omega) (by simp; omega)
  rw [List.drop_zero, List.nil_append] at h
  exact h
end Go.Proofs.Ytgenbepicnbecaa.Pure
