-- out of a driver of this session's prover over the kit's print: Lean checks it
import Derived.Test.YtgenbepicnbecaaPAllx0
import Derived.Test.YtgenbepicnbecaaPAllx2
import Derived.Test.YtgenbepicnbecaaPAllx4
import Derived.Test.YtgenbepicnbecaaPAllx5
import Derived.Test.YtgenbepicnbecaaPAllx9
import Derived.Test.YtgenbepicnbecaaPAllx15
import Derived.Test.YtgenbepicnbecaaPAllx16
namespace Go.Proofs.Ytgenbepicnbecaa.PAll
open Go.Proofs.YtgenbepicnbecaaG Go.Shelf Go.Lib
open Go.RowKit Go.Proofs.YtgenbepicnbecaaW.PrintWords Go.Proofs.YtgenbepicnbecaaW.PrintLast Go.Proofs.YtgenbepicnbecaaW.PrintMore
attribute [local go_sem] max2_int min2_int max_two min_two max_three min_three max_four min_four   -- for this text's walks alone
set_option linter.unusedVariables false
set_option linter.unusedSimpArgs false
attribute [local go_sem high] eqA36 eqA70
def wf36 (x : S36) : Prop := (Lit.int .i64 x.f0).wf = true ∧ (Lit.int .i64 x.f1).wf = true
set_option maxRecDepth 100000 in
theorem opens36 : Opens Try.prog 36 k36 wf36 := by
 refine Opens.iso (d := (Kd.pair (Kd.int .i64) (Kd.int .i64))) (W := fun x => (Lit.int .i64 x.1).wf = true ∧ (Lit.int .i64 x.2).wf = true) (f := fun x : S36 => (x.f0, x.f1)) (g := fun x => (⟨x.1, x.2⟩ : S36)) ?_ (fun _ => rfl)
 refine Opens.struct Try.underlying36 (by kernel_rfl) ?_
 exact (OpensF.cons rfl (Opens.int Try.underlying3 (by kernel_rfl)) (OpensF.one rfl (Opens.int Try.underlying3 (by kernel_rfl))))
def wf70 (x : S70) : Prop := x.f0.size ≤ maxLen ∧ x.f1.size ≤ maxLen
set_option maxRecDepth 100000 in
theorem opens70 : Opens Try.prog 70 k70 wf70 := by
 refine Opens.iso (d := (Kd.pair Kd.string Kd.string)) (W := fun x => x.1.size ≤ maxLen ∧ x.2.size ≤ maxLen) (f := fun x : S70 => (x.f0, x.f1)) (g := fun x => (⟨x.1, x.2⟩ : S70)) ?_ (fun _ => rfl)
 refine Opens.struct Try.underlying70 (by kernel_rfl) ?_
 exact (OpensF.cons rfl (Opens.string Try.underlying9 (by kernel_rfl)) (OpensF.one rfl (Opens.string Try.underlying9 (by kernel_rfl))))
def wf39 (x : S39) : Prop := (Lit.int .i64 x.f0).wf = true ∧ wf36 x.f1 ∧ (x.f2.length ≤ 140737488355328 ∧ ∀ y ∈ x.f2, wf70 y)
set_option maxRecDepth 100000 in
theorem opens39 : Opens Try.prog 39 k39 wf39 := by
 refine Opens.iso (d := (Kd.pair (Kd.int .i64) (Kd.pair k36 (Kd.slice 70 k70)))) (W := fun x => (Lit.int .i64 x.1).wf = true ∧ wf36 x.2.1 ∧ (x.2.2.length ≤ 140737488355328 ∧ ∀ y ∈ x.2.2, wf70 y)) (f := fun x : S39 => (x.f0, x.f1, x.f2)) (g := fun x => (⟨x.1, x.2.1, x.2.2⟩ : S39)) ?_ (fun _ => rfl)
 refine Opens.struct Try.underlying39 (by kernel_rfl) ?_
 exact (OpensF.cons rfl (Opens.int Try.underlying3 (by kernel_rfl)) (OpensF.cons rfl opens36 (OpensF.one rfl (Opens.slice Try.underlying37 (by kernel_rfl) (of_decide_eq_true (by kernel_rfl)) opens70))))
def wf45 (x : S45) : Prop := (Lit.int .i64 x.f0).wf = true ∧ (x.f1.length ≤ 140737488355328 ∧ ∀ y ∈ x.f1, (Lit.int .i64 y).wf = true) ∧ (x.f2.length ≤ 140737488355328 ∧ ∀ y ∈ x.f2, wf70 y)
set_option maxRecDepth 100000 in
theorem opens45 : Opens Try.prog 45 k45 wf45 := by
 refine Opens.iso (d := (Kd.pair (Kd.int .i64) (Kd.pair (Kd.slice 3 (Kd.int .i64)) (Kd.slice 70 k70)))) (W := fun x => (Lit.int .i64 x.1).wf = true ∧ (x.2.1.length ≤ 140737488355328 ∧ ∀ y ∈ x.2.1, (Lit.int .i64 y).wf = true) ∧ (x.2.2.length ≤ 140737488355328 ∧ ∀ y ∈ x.2.2, wf70 y)) (f := fun x : S45 => (x.f0, x.f1, x.f2)) (g := fun x => (⟨x.1, x.2.1, x.2.2⟩ : S45)) ?_ (fun _ => rfl)
 refine Opens.struct Try.underlying45 (by kernel_rfl) ?_
 exact (OpensF.cons rfl (Opens.int Try.underlying3 (by kernel_rfl)) (OpensF.cons rfl (Opens.slice Try.underlying43 (by kernel_rfl) (of_decide_eq_true (by kernel_rfl)) (Opens.int Try.underlying3 (by kernel_rfl))) (OpensF.one rfl (Opens.slice Try.underlying37 (by kernel_rfl) (of_decide_eq_true (by kernel_rfl)) opens70))))
def wf34 (x : S34) : Prop := (Lit.int .i64 x.f0).wf = true ∧ (Lit.int .i64 x.f1).wf = true
set_option maxRecDepth 100000 in
theorem opens34 : Opens Try.prog 34 k34 wf34 := by
 refine Opens.iso (d := (Kd.pair (Kd.int .i64) (Kd.int .i64))) (W := fun x => (Lit.int .i64 x.1).wf = true ∧ (Lit.int .i64 x.2).wf = true) (f := fun x : S34 => (x.f0, x.f1)) (g := fun x => (⟨x.1, x.2⟩ : S34)) ?_ (fun _ => rfl)
 refine Opens.struct Try.underlying34 (by kernel_rfl) ?_
 exact (OpensF.cons rfl (Opens.int Try.underlying3 (by kernel_rfl)) (OpensF.one rfl (Opens.int Try.underlying3 (by kernel_rfl))))
def wf67 (x : S67) : Prop := wf34 x.f0 ∧ x.f1.size ≤ maxLen
set_option maxRecDepth 100000 in
theorem opens67 : Opens Try.prog 67 k67 wf67 := by
 refine Opens.iso (d := (Kd.pair k34 Kd.string)) (W := fun x => wf34 x.1 ∧ x.2.size ≤ maxLen) (f := fun x : S67 => (x.f0, x.f1)) (g := fun x => (⟨x.1, x.2⟩ : S67)) ?_ (fun _ => rfl)
 refine Opens.struct Try.underlying67 (by kernel_rfl) ?_
 exact (OpensF.cons rfl opens34 (OpensF.one rfl (Opens.string Try.underlying9 (by kernel_rfl))))
def wf51 (x : S51) : Prop := (Lit.int .i64 x.f0).wf = true ∧ (x.f1.length ≤ 140737488355328 ∧ ∀ y ∈ x.f1, wf67 y) ∧ (x.f2.length ≤ 140737488355328 ∧ ∀ y ∈ x.f2, wf70 y)
set_option maxRecDepth 100000 in
theorem opens51 : Opens Try.prog 51 k51 wf51 := by
 refine Opens.iso (d := (Kd.pair (Kd.int .i64) (Kd.pair (Kd.slice 67 k67) (Kd.slice 70 k70)))) (W := fun x => (Lit.int .i64 x.1).wf = true ∧ (x.2.1.length ≤ 140737488355328 ∧ ∀ y ∈ x.2.1, wf67 y) ∧ (x.2.2.length ≤ 140737488355328 ∧ ∀ y ∈ x.2.2, wf70 y)) (f := fun x : S51 => (x.f0, x.f1, x.f2)) (g := fun x => (⟨x.1, x.2.1, x.2.2⟩ : S51)) ?_ (fun _ => rfl)
 refine Opens.struct Try.underlying51 (by kernel_rfl) ?_
 exact (OpensF.cons rfl (Opens.int Try.underlying3 (by kernel_rfl)) (OpensF.cons rfl (Opens.slice Try.underlying49 (by kernel_rfl) (of_decide_eq_true (by kernel_rfl)) opens67) (OpensF.one rfl (Opens.slice Try.underlying37 (by kernel_rfl) (of_decide_eq_true (by kernel_rfl)) opens70))))
def wf26 (x : S26) : Prop := (x.f0.length ≤ 140737488355328 ∧ ∀ y ∈ x.f0, wf39 y) ∧ (x.f1.length ≤ 140737488355328 ∧ ∀ y ∈ x.f1, wf45 y) ∧ (x.f2.length ≤ 140737488355328 ∧ ∀ y ∈ x.f2, wf51 y)
set_option maxRecDepth 100000 in
theorem opens26 : Opens Try.prog 26 k26 wf26 := by
 refine Opens.iso (d := (Kd.pair (Kd.slice 39 k39) (Kd.pair (Kd.slice 45 k45) (Kd.slice 51 k51)))) (W := fun x => (x.1.length ≤ 140737488355328 ∧ ∀ y ∈ x.1, wf39 y) ∧ (x.2.1.length ≤ 140737488355328 ∧ ∀ y ∈ x.2.1, wf45 y) ∧ (x.2.2.length ≤ 140737488355328 ∧ ∀ y ∈ x.2.2, wf51 y)) (f := fun x : S26 => (x.f0, x.f1, x.f2)) (g := fun x => (⟨x.1, x.2.1, x.2.2⟩ : S26)) ?_ (fun _ => rfl)
 refine Opens.struct Try.underlying26 (by kernel_rfl) ?_
 exact (OpensF.cons rfl (Opens.slice Try.underlying22 (by kernel_rfl) (of_decide_eq_true (by kernel_rfl)) opens39) (OpensF.cons rfl (Opens.slice Try.underlying23 (by kernel_rfl) (of_decide_eq_true (by kernel_rfl)) opens45) (OpensF.one rfl (Opens.slice Try.underlying24 (by kernel_rfl) (of_decide_eq_true (by kernel_rfl)) opens51))))
end Go.Proofs.Ytgenbepicnbecaa.PAll
