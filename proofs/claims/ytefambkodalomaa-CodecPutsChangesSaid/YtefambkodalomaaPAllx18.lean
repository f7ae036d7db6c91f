-- out of a driver of this session's prover over the kit's print: Lean checks it
import Derived.Test.YtefambkodalomaaPAllx0
import Derived.Test.YtefambkodalomaaPAllx5
import Derived.Test.YtefambkodalomaaPAllx13
import Derived.Test.YtefambkodalomaaPAllx15
import Derived.Test.YtefambkodalomaaPAllx16
import Derived.Test.YtefambkodalomaaPAllx17
namespace Go.Proofs.Ytefambkodalomaa.PAll
open Go.Proofs.YtefambkodalomaaG Go.Shelf Go.Lib
open Go.RowKit Go.Proofs.YtefambkodalomaaW.PrintWords Go.Proofs.YtefambkodalomaaW.PrintLast Go.Proofs.YtefambkodalomaaW.PrintMore
attribute [local go_sem] max2_int min2_int max_two min_two max_three min_three max_four min_four   -- for this text's walks alone
set_option linter.unusedVariables false
set_option linter.unusedSimpArgs false
def wf50 (x : S50) : Prop := (Lit.int .i64 x.f0).wf = true ∧ (Lit.int .i64 x.f1).wf = true
set_option maxRecDepth 100000 in
theorem opens50 : Opens Try.prog 50 k50 wf50 := by
 refine Opens.iso (d := (Kd.pair (Kd.int .i64) (Kd.int .i64))) (W := fun x => (Lit.int .i64 x.1).wf = true ∧ (Lit.int .i64 x.2).wf = true) (f := fun x : S50 => (x.f0, x.f1)) (g := fun x => (⟨x.1, x.2⟩ : S50)) ?_ (fun _ => rfl); refine Opens.struct Try.underlying50 (by kernel_rfl) ?_; exact (OpensF.cons rfl (Opens.int Try.underlying3 (by kernel_rfl)) (OpensF.one rfl (Opens.int Try.underlying3 (by kernel_rfl))))
def wf130 (x : S130) : Prop := x.f0.size ≤ maxLen ∧ x.f1.size ≤ maxLen
set_option maxRecDepth 100000 in
theorem opens130 : Opens Try.prog 130 k130 wf130 := by
 refine Opens.iso (d := (Kd.pair Kd.string Kd.string)) (W := fun x => x.1.size ≤ maxLen ∧ x.2.size ≤ maxLen) (f := fun x : S130 => (x.f0, x.f1)) (g := fun x => (⟨x.1, x.2⟩ : S130)) ?_ (fun _ => rfl); refine Opens.struct Try.underlying130 (by kernel_rfl) ?_; exact (OpensF.cons rfl (Opens.string Try.underlying9 (by kernel_rfl)) (OpensF.one rfl (Opens.string Try.underlying9 (by kernel_rfl))))
def wf53 (x : S53) : Prop := (Lit.int .i64 x.f0).wf = true ∧ wf50 x.f1 ∧ (x.f2.length ≤ 140737488355328 ∧ ∀ y ∈ x.f2, wf130 y)
set_option maxRecDepth 100000 in
theorem opens53 : Opens Try.prog 53 k53 wf53 := by
 refine Opens.iso (d := (Kd.pair (Kd.int .i64) (Kd.pair k50 (Kd.slice 130 k130)))) (W := fun x => (Lit.int .i64 x.1).wf = true ∧ wf50 x.2.1 ∧ (x.2.2.length ≤ 140737488355328 ∧ ∀ y ∈ x.2.2, wf130 y)) (f := fun x : S53 => (x.f0, x.f1, x.f2)) (g := fun x => (⟨x.1, x.2.1, x.2.2⟩ : S53)) ?_ (fun _ => rfl); refine Opens.struct Try.underlying53 (by kernel_rfl) ?_; exact (OpensF.cons rfl (Opens.int Try.underlying3 (by kernel_rfl)) (OpensF.cons rfl opens50 (OpensF.one rfl (Opens.slice Try.underlying51 (by kernel_rfl) (of_decide_eq_true (by kernel_rfl)) opens130))))
def wf56 (x : S56) : Prop := (Lit.int .i64 x.f0).wf = true ∧ (x.f1.length ≤ 140737488355328 ∧ ∀ y ∈ x.f1, (Lit.int .i64 y).wf = true) ∧ (x.f2.length ≤ 140737488355328 ∧ ∀ y ∈ x.f2, wf130 y)
set_option maxRecDepth 100000 in
theorem opens56 : Opens Try.prog 56 k56 wf56 := by
 refine Opens.iso (d := (Kd.pair (Kd.int .i64) (Kd.pair (Kd.slice 3 (Kd.int .i64)) (Kd.slice 130 k130)))) (W := fun x => (Lit.int .i64 x.1).wf = true ∧ (x.2.1.length ≤ 140737488355328 ∧ ∀ y ∈ x.2.1, (Lit.int .i64 y).wf = true) ∧ (x.2.2.length ≤ 140737488355328 ∧ ∀ y ∈ x.2.2, wf130 y)) (f := fun x : S56 => (x.f0, x.f1, x.f2)) (g := fun x => (⟨x.1, x.2.1, x.2.2⟩ : S56)) ?_ (fun _ => rfl); refine Opens.struct Try.underlying56 (by kernel_rfl) ?_; exact (OpensF.cons rfl (Opens.int Try.underlying3 (by kernel_rfl)) (OpensF.cons rfl (Opens.slice Try.underlying54 (by kernel_rfl) (of_decide_eq_true (by kernel_rfl)) (Opens.int Try.underlying3 (by kernel_rfl))) (OpensF.one rfl (Opens.slice Try.underlying51 (by kernel_rfl) (of_decide_eq_true (by kernel_rfl)) opens130))))
def wf61 (x : S61) : Prop := (Lit.int .i64 x.f0).wf = true ∧ (Lit.int .i64 x.f1).wf = true
set_option maxRecDepth 100000 in
theorem opens61 : Opens Try.prog 61 k61 wf61 := by
 refine Opens.iso (d := (Kd.pair (Kd.int .i64) (Kd.int .i64))) (W := fun x => (Lit.int .i64 x.1).wf = true ∧ (Lit.int .i64 x.2).wf = true) (f := fun x : S61 => (x.f0, x.f1)) (g := fun x => (⟨x.1, x.2⟩ : S61)) ?_ (fun _ => rfl); refine Opens.struct Try.underlying61 (by kernel_rfl) ?_; exact (OpensF.cons rfl (Opens.int Try.underlying3 (by kernel_rfl)) (OpensF.one rfl (Opens.int Try.underlying3 (by kernel_rfl))))
def wf63 (x : S63) : Prop := wf61 x.f0 ∧ x.f1.size ≤ maxLen
set_option maxRecDepth 100000 in
theorem opens63 : Opens Try.prog 63 k63 wf63 := by
 refine Opens.iso (d := (Kd.pair k61 Kd.string)) (W := fun x => wf61 x.1 ∧ x.2.size ≤ maxLen) (f := fun x : S63 => (x.f0, x.f1)) (g := fun x => (⟨x.1, x.2⟩ : S63)) ?_ (fun _ => rfl); refine Opens.struct Try.underlying63 (by kernel_rfl) ?_; exact (OpensF.cons rfl opens61 (OpensF.one rfl (Opens.string Try.underlying9 (by kernel_rfl))))
def wf59 (x : S59) : Prop := (Lit.int .i64 x.f0).wf = true ∧ (x.f1.length ≤ 140737488355328 ∧ ∀ y ∈ x.f1, wf63 y) ∧ (x.f2.length ≤ 140737488355328 ∧ ∀ y ∈ x.f2, wf130 y)
set_option maxRecDepth 100000 in
theorem opens59 : Opens Try.prog 59 k59 wf59 := by
 refine Opens.iso (d := (Kd.pair (Kd.int .i64) (Kd.pair (Kd.slice 63 k63) (Kd.slice 130 k130)))) (W := fun x => (Lit.int .i64 x.1).wf = true ∧ (x.2.1.length ≤ 140737488355328 ∧ ∀ y ∈ x.2.1, wf63 y) ∧ (x.2.2.length ≤ 140737488355328 ∧ ∀ y ∈ x.2.2, wf130 y)) (f := fun x : S59 => (x.f0, x.f1, x.f2)) (g := fun x => (⟨x.1, x.2.1, x.2.2⟩ : S59)) ?_ (fun _ => rfl); refine Opens.struct Try.underlying59 (by kernel_rfl) ?_; exact (OpensF.cons rfl (Opens.int Try.underlying3 (by kernel_rfl)) (OpensF.cons rfl (Opens.slice Try.underlying57 (by kernel_rfl) (of_decide_eq_true (by kernel_rfl)) opens63) (OpensF.one rfl (Opens.slice Try.underlying51 (by kernel_rfl) (of_decide_eq_true (by kernel_rfl)) opens130))))
end Go.Proofs.Ytefambkodalomaa.PAll
