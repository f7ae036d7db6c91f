-- out of a driver of this session's prover over the kit's print: Lean checks it
import Derived.Test.YtijoaohckgbneaaPAllx0
import Derived.Test.YtijoaohckgbneaaPAllx1
namespace Go.Proofs.Ytijoaohckgbneaa.PAll
open Go.Proofs.YtijoaohckgbneaaG Go.Shelf Go.Lib
open Go.RowKit Go.Proofs.YtijoaohckgbneaaW.PrintWords Go.Proofs.YtijoaohckgbneaaW.PrintLast Go.Proofs.YtijoaohckgbneaaW.PrintMore
attribute [local go_sem] max2_int min2_int max_two min_two max_three min_three max_four min_four   -- for this text's walks alone
set_option linter.unusedVariables false
set_option linter.unusedSimpArgs false
theorem eqA89 (d : Nat) (w : World) (x0 y0 : Int) (x1 y1 : Int) (x2 y2 : ByteArray) :
  (Op.equalIn (d + 3) 89 (.agg #[.int .i64 x0, .int .i64 x1, .string x2]) (.agg #[.int .i64 y0, .int .i64 y1, .string y2])).run Try.prog w = .ok ((x0 == y0 && (x1 == y1)) && (x2.toList == y2.toList)) w := by
 refine eqA_of Try.underlying89 (by kernel_rfl) ?_; refine eqf_cons (by rfl) (by go_simp) (by go_simp) (eqA36 (d + 0) w _ _ _ _) ?_; exact eqf_last (by rfl) (by go_simp; rfl) (by go_simp; rfl) (by go_simp)
end Go.Proofs.Ytijoaohckgbneaa.PAll
