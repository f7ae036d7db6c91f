import Derived.Test.YtpgbfjndgbfhnaaWWords
import Derived.Test.YtpgbfjndgbfhnaaWLast
import Derived.Test.YtpgbfjndgbfhnaaWTab
import Derived.Test.YtpgbfjndgbfhnaaWFour
import Derived.Test.YtpgbfjndgbfhnaaWQPut
import Derived.Test.YtpgbfjndgbfhnaaWApart
import Derived.Test.YtpgbfjndgbfhnaaWArr
import Derived.Test.YtpgbfjndgbfhnaaWZeros
import Derived.Test.YtpgbfjndgbfhnaaWFoot
import Derived.Test.YtpgbfjndgbfhnaaWKept
import Derived.Test.YtpgbfjndgbfhnaaWShare
import Derived.Test.YtpgbfjndgbfhnaaWN
import Derived.Test.YtpgbfjndgbfhnaaWFootNe
import Derived.Test.YtpgbfjndgbfhnaaWAt
import Derived.Test.YtpgbfjndgbfhnaaWEqStruct
import Derived.Test.YtpgbfjndgbfhnaaWRepsOne
import Derived.Test.YtpgbfjndgbfhnaaWInv
import Derived.Test.YtpgbfjndgbfhnaaWInvWords
import Derived.Test.YtpgbfjndgbfhnaaWGuard
import Derived.Test.YtpgbfjndgbfhnaaWNEv
import Derived.Test.YtpgbfjndgbfhnaaWMore
namespace Go.Proofs.YtpgbfjndgbfhnaaW.PrintWords
open Go.RowKit Go.Proofs.YtpgbfjndgbfhnaaW.PrintLast Go.Proofs.YtpgbfjndgbfhnaaW.PrintMore
abbrev rA := @Kd.R_alloc
abbrev rN := @Kd.R_drewN
abbrev rD := @Kd.R_drew
abbrev bN := @pw_below_drewN
abbrev bD := @below_drew1
abbrev kN := @blk_drewN
abbrev kD := @blk_drew
abbrev kA := @blk_alloc
abbrev rB := @Kd.R_below
abbrev rE := @Kd.R_elder'
abbrev kB := @blk_below
abbrev bS := @below_step
abbrev rR := @Kd.R_reads'
abbrev kC := @blk_cell
abbrev kF := @blk_frozen
abbrev kP := @blk_put
abbrev cA := @Kd.C_alloc
abbrev cN := @Kd.C_drewN
abbrev cD := @Kd.C_drew
abbrev rL := @Kd.R_elderB
abbrev rM := @Kd.R_mono
abbrev aM := @Aside0.mk
abbrev sA := @List.setIfInBounds_toArray
abbrev sB := @List.set_cons_zero
abbrev sC := @List.set_cons_succ
theorem hs {w w' : World} {a : Addr} {v : Value} (hb : Below w.heap.size w w') (h : w.cell? a = some v) : w'.cell? a = some v := (hb.cell (World.block_lt_of_cell? _ _ h)).trans h
theorem bl {B : Nat} {w W : World} (h : Below B w W := by repeat (first | (with_reducible first | exact Aside0.out (by assumption) | apply below_alloc | apply pw_below_drewN | apply below_drew1 | refine below_set ?_ (Aside0.out (by assumption))))) : Below B w W := h
theorem rl {α : Type} {d : Kd α} {e base : Nat} {ok : Nat → Prop} {w0 w : World} {v : Value} {xs : List α} (_h0 : Aside0 (d.R e w0 base ok v xs)) (h : d.R e w base ok v xs := by (with_reducible repeat (first | apply Kd.R_alloc | apply Kd.R_drewN | apply Kd.R_drew)); exact Aside0.out (by assumption)) : d.R e w base ok v xs := h
theorem kl {g : Nat} {o : Obj} {w0 W : World} (_h0 : Aside0 (w0.heap[g]? = some o)) (h : W.heap[g]? = some o := by (with_reducible repeat (first | refine blk_drewN ?_ _ | refine blk_drew ?_ | refine blk_alloc ?_ _)); exact Aside0.out (by assumption)) : W.heap[g]? = some o := h
def ba (n b : Nat) : Array Bool := ((List.range n).map fun i => b.testBit i).toArray
end Go.Proofs.YtpgbfjndgbfhnaaW.PrintWords
