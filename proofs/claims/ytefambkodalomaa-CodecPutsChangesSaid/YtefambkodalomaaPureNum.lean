/- c16, plain: the number at a place of a string, and that wire reads it. -/
import Derived.Test.YtefambkodalomaaPAllx6
import Derived.Laws.BitsAllLaws
namespace Go.Proofs.Ytefambkodalomaa.Pure
open Go.RowKit Go.Proofs.Ytefambkodalomaa.PAll Go.Proofs.YtefambkodalomaaW.PrintWords Go.Proofs.YtefambkodalomaaW.PrintLast Go.Proofs.YtefambkodalomaaW.PrintMore
def V (s : ByteArray) (p : Int) : Nat → Int
  | 0 => 0
  | i + 1 => V s p i + (bt s (p + i)) % 128 * 128 ^ i
theorem w64 {x : Int} (h0 : -9223372036854775808 ≤ x) (h1 : x < 9223372036854775808) : wrap64 x = x := by unfold wrap64; omega
end Go.Proofs.Ytefambkodalomaa.Pure
