import Derived.Test.YtmejeiddlhjjmaaWWords
import Derived.Test.YtmejeiddlhjjmaaWLast
import Derived.Test.YtmejeiddlhjjmaaWTab
import Derived.Test.YtmejeiddlhjjmaaWFour
import Derived.Test.YtmejeiddlhjjmaaWQPut
import Derived.Test.YtmejeiddlhjjmaaWApart
import Derived.Test.YtmejeiddlhjjmaaWArr
import Derived.Test.YtmejeiddlhjjmaaWZeros
import Derived.Test.YtmejeiddlhjjmaaWFoot
import Derived.Test.YtmejeiddlhjjmaaWKept
import Derived.Test.YtmejeiddlhjjmaaWShare
import Derived.Test.YtmejeiddlhjjmaaWN
import Derived.Test.YtmejeiddlhjjmaaWFootNe
import Derived.Test.YtmejeiddlhjjmaaWAt
import Derived.Test.YtmejeiddlhjjmaaWEqStruct
import Derived.Test.YtmejeiddlhjjmaaWRepsOne
import Derived.Test.YtmejeiddlhjjmaaWInv
import Derived.Test.YtmejeiddlhjjmaaWInvWords
import Derived.Test.YtmejeiddlhjjmaaWGuard
import Derived.Test.YtmejeiddlhjjmaaWNEv
import Derived.Test.YtmejeiddlhjjmaaWMore
namespace Go.Proofs.YtmejeiddlhjjmaaW.PrintWords
open Go.RowKit Go.Proofs.YtmejeiddlhjjmaaW.PrintLast Go.Proofs.YtmejeiddlhjjmaaW.PrintMore
abbrev rA := @Kd.R_alloc
abbrev rN := @Kd.R_drewN
abbrev rD := @Kd.R_drew
abbrev bA := @below_alloc
abbrev bN := @pw_below_drewN
abbrev bD := @below_drew1
abbrev kN := @blk_drewN
abbrev kD := @blk_drew
abbrev kA := @blk_alloc
abbrev rB := @Kd.R_below
abbrev rE := @Kd.R_elder'
abbrev kB := @blk_below
abbrev bS := @below_step
abbrev rR := @Kd.R_reads'
abbrev kC := @blk_cell
abbrev kF := @blk_frozen
abbrev kP := @blk_put
abbrev bT := @below_set
abbrev cA := @Kd.C_alloc
abbrev cN := @Kd.C_drewN
abbrev cD := @Kd.C_drew
abbrev rL := @Kd.R_elderB
abbrev rM := @Kd.R_mono
abbrev aM := @Aside0.mk
end Go.Proofs.YtmejeiddlhjjmaaW.PrintWords
