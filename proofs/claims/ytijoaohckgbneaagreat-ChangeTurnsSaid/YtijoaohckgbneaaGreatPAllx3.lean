-- out of a driver of this session's prover over the kit's print: Lean checks it
import Derived.Test.YtijoaohckgbneaaGreatPAllx0
import Derived.Test.YtijoaohckgbneaaGreatPAllx2
namespace Go.Proofs.YtijoaohckgbneaaGreat.PAll
open Go.Proofs.YtijoaohckgbneaaGreatG Go.Shelf Go.Lib
open Go.RowKit Go.Proofs.YtijoaohckgbneaaGreatW.PrintWords Go.Proofs.YtijoaohckgbneaaGreatW.PrintLast Go.Proofs.YtijoaohckgbneaaGreatW.PrintMore
attribute [local go_sem] max2_int min2_int max_two min_two max_three min_three max_four min_four   -- for this text's walks alone
set_option linter.unusedVariables false
set_option linter.unusedSimpArgs false
theorem eqA112 (d : Nat) (w : World) (x0 y0 : Int) (x1 y1 : Int) (x2 y2 : ByteArray) :
  (Op.equalIn (d + 3) 112 (.agg #[.int .i64 x0, .int .i64 x1, .string x2]) (.agg #[.int .i64 y0, .int .i64 y1, .string y2])).run Tryz.prog w = .ok ((x0 == y0 && (x1 == y1)) && (x2.toList == y2.toList)) w := by
 refine eqA_of Tryz.underlying112 (by kernel_rfl) ?_; refine eqf_cons (by rfl) (by go_simp) (by go_simp) (eqA48 (d + 0) w _ _ _ _) ?_; exact eqf_last (by rfl) (by go_simp; rfl) (by go_simp; rfl) (by go_simp)
end Go.Proofs.YtijoaohckgbneaaGreat.PAll
