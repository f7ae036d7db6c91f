-- out of a driver of this session's prover over the kit's print: Lean checks it
import Derived.Test.YtmejeiddlhjjmaaPNodingCrossesx0
import Derived.Test.YtmejeiddlhjjmaaPNodingCrossesx2
namespace Go.Proofs.Ytmejeiddlhjjmaa.PNodingCrosses
open Go.Proofs.YtmejeiddlhjjmaaG Go.Shelf Go.Lib
open Go.RowKit Go.Proofs.YtmejeiddlhjjmaaW.PrintWords Go.Proofs.YtmejeiddlhjjmaaW.PrintLast Go.Proofs.YtmejeiddlhjjmaaW.PrintMore
attribute [local go_sem] max2_int min2_int max_two min_two max_three min_three max_four min_four   -- for this text's walks alone
set_option linter.unusedVariables false
set_option linter.unusedSimpArgs false
theorem eqA36 (d : Nat) (w : World) (x0 y0 : Int) (x1 y1 : Int) (x2 y2 : Int) (x3 y3 : Int) (x4 y4 : Int) (x5 y5 : Int) (x6 y6 : Int) (x7 y7 : Int) :
  (Op.equalIn (d + 4) 36 (.agg #[.int .i64 x0, .int .i64 x1, .int .i64 x2, .int .i64 x3, .int .i64 x4, .int .i64 x5, .int .i64 x6, .int .i64 x7]) (.agg #[.int .i64 y0, .int .i64 y1, .int .i64 y2, .int .i64 y3, .int .i64 y4, .int .i64 y5, .int .i64 y6, .int .i64 y7])).run Try.prog w = .ok (((x0 == y0 && (x1 == y1)) && ((x2 == y2 && (x3 == y3)))) && (((x4 == y4 && (x5 == y5)) && ((x6 == y6 && (x7 == y7)))))) w := by
 obtain ⟨i, hi⟩ : ∃ i, Try.prog.info? 35 = some i := by
  have h := info35
  cases hq : Try.prog.info? 35 with
  | none => rw [hq] at h; cases h
  | some i => exact ⟨i, rfl⟩
 rw [run_equalIn_array (P := Try.prog) (w := w) (d + 3) _ _ Try.underlying36 hi]
 rw [show List.range 2 = [0, 1] from rfl, show Try.prog.cellsOf 35 = 4 by kernel_rfl]
 have p0 : (part 35 #[.int .i64 x0, .int .i64 x1, .int .i64 x2, .int .i64 x3, .int .i64 x4, .int .i64 x5, .int .i64 x6, .int .i64 x7] (0 * 4)).run Try.prog w = .ok (.agg #[.int .i64 x0, .int .i64 x1, .int .i64 x2, .int .i64 x3]) w := by go_simp
 have p1 : (part 35 #[.int .i64 x0, .int .i64 x1, .int .i64 x2, .int .i64 x3, .int .i64 x4, .int .i64 x5, .int .i64 x6, .int .i64 x7] (1 * 4)).run Try.prog w = .ok (.agg #[.int .i64 x4, .int .i64 x5, .int .i64 x6, .int .i64 x7]) w := by go_simp
 have q0 : (part 35 #[.int .i64 y0, .int .i64 y1, .int .i64 y2, .int .i64 y3, .int .i64 y4, .int .i64 y5, .int .i64 y6, .int .i64 y7] (0 * 4)).run Try.prog w = .ok (.agg #[.int .i64 y0, .int .i64 y1, .int .i64 y2, .int .i64 y3]) w := by go_simp
 have q1 : (part 35 #[.int .i64 y0, .int .i64 y1, .int .i64 y2, .int .i64 y3, .int .i64 y4, .int .i64 y5, .int .i64 y6, .int .i64 y7] (1 * 4)).run Try.prog w = .ok (.agg #[.int .i64 y4, .int .i64 y5, .int .i64 y6, .int .i64 y7]) w := by go_simp
 have e0 := eqA35 d w x0 y0 x1 y1 x2 y2 x3 y3
 have e1 := eqA35 d w x4 y4 x5 y5 x6 y6 x7 y7
 generalize ((x0 == y0 && (x1 == y1)) && ((x2 == y2 && (x3 == y3)))) = r0 at e0 ⊢
 generalize ((x4 == y4 && (x5 == y5)) && ((x6 == y6 && (x7 == y7)))) = r1 at e1 ⊢
 rw [Nat.one_mul] at p1 q1
 simp only [Op.eqItems, Sem.run_bind, p0, q0, e0, Result.andThen_ok]
 cases r0
 ·simp
 ·simp [p1, q1, e1]
  cases r1 <;> simp
end Go.Proofs.Ytmejeiddlhjjmaa.PNodingCrosses
