-- out of a driver of this session's prover over the kit's print: Lean checks it
import Derived.Test.YtpgbfjndgbfhnaaPAllx0
import Derived.Test.YtpgbfjndgbfhnaaPAllx3
import Derived.Test.YtpgbfjndgbfhnaaPAllx13
namespace Go.Proofs.Ytpgbfjndgbfhnaa.PAll
open Go.Proofs.YtpgbfjndgbfhnaaG Go.Shelf Go.Lib
open Go.RowKit Go.Proofs.YtpgbfjndgbfhnaaW.PrintWords Go.Proofs.YtpgbfjndgbfhnaaW.PrintLast Go.Proofs.YtpgbfjndgbfhnaaW.PrintMore
attribute [local go_sem] max2_int min2_int max_two min_two max_three min_three max_four min_four   -- for this text's walks alone
set_option linter.unusedVariables false
set_option linter.unusedSimpArgs false
/-! ### mapmakerref26_Line: function 14 -/