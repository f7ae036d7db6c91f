/- c16, plain: readers as functions of a string and a place; what they read is what the writers write. -/
import Derived.Test.YtefambkodalomaaPureNum
namespace Go.Proofs.Ytefambkodalomaa.Pure
open Go.RowKit Go.Proofs.Ytefambkodalomaa.PAll Go.Proofs.YtefambkodalomaaW.PrintWords Go.Proofs.YtefambkodalomaaW.PrintLast Go.Proofs.YtefambkodalomaaW.PrintMore
set_option linter.unusedVariables false
set_option linter.unusedSimpArgs false
theorem Ev.val {α : Type} {g : Nat → Option α} {a b : α} (h : Ev g a) (e : a = b) : Ev g b := e ▸ h
def chkE (o d : Int) : Int := if (o = 1 ∨ o = 2) ∧ 1 ≤ d ∧ d ≤ 3 then 0 else 1
def fin {α : Type} (s : ByteArray) (x : Except Int (α × Int)) : Except Int α :=
  match x with
  | .error e => .error e
  | .ok a => if a.2 < (s.size : Int) then .error 5 else .ok a.1
end Go.Proofs.Ytefambkodalomaa.Pure
