/- Functions that may panic with a number: Except Int; a panicking call in a region that draws its order. -/
import Derived.Test.YtefambkodalomaaGOpen
import Derived.Test.YtefambkodalomaaWLast
import Derived.Test.YtefambkodalomaaWMore
namespace Go.Proofs.YtefambkodalomaaG
open Go.RowKit Go.Proofs.YtefambkodalomaaW.PrintWords Go.Proofs.YtefambkodalomaaW.PrintLast
def eB {α β : Type} (o : Option (Except Int α)) (f : α → Option (Except Int β)) : Option (Except Int β) :=
  o.bind fun x => match x with
    | .error e => some (.error e)
    | .ok a => f a
theorem eB_cases {α β : Type} {o : Option (Except Int α)} {f : α → Option (Except Int β)} {r : Except Int β} (h : eB o f = some r) :
    (∃ e, o = some (.error e) ∧ r = .error e) ∨ (∃ a, o = some (.ok a) ∧ f a = some r) := by
  unfold eB at h
  cases o with
  | none => cases h
  | some x =>
    cases x with
    | error e => exact .inl ⟨e, rfl, (Option.some.inj h).symm⟩
    | ok a => exact .inr ⟨a, rfl, h⟩
theorem LeO.eB {α β : Type} {o o' : Option (Except Int α)} {f f' : α → Option (Except Int β)} (h : LeO o o') (hf : ∀ a, LeO (f a) (f' a)) : LeO (eB o f) (eB o' f') := by
  refine LeO.bind h (fun x => ?_)
  cases x with
  | error e => exact LeO.refl _
  | ok a => exact hf a
section
variable {P : Program} {ops : Array Oper} {Q : Exit → Act → World → Prop}
theorem goesP_ {oi : Oper} {N : Option Tmp} {a : Act} {w : World} {K : Act → World → Prop} {f : FuncId} {fn : Func} {as : Array Operand} {ts : Array TypeId} (hf : P.funcs[f]? = some fn) (hname : (fn.name == "runtime.NumGoroutine") = false) (hb : fn.body.isSome = true) (args : Array Value)
    (hw : Region.wanted oi (yielded ops a.tmps) = true) (hN : oi.dst = N) (hop : oi.op = .call { callee := .value (.func f), args := as, argTypes := ts }) (hargs : as.map a.eval = args)
    (h : Calls P f args w fun e w' => ∃ c, e = .panicked c ∧ Q (.panic c) a w') : if Region.wanted oi (yielded ops a.tmps) = true then Oper.wp P oi a w K Q else K (a.put N undef) w := by
  rw [if_pos hw]
  subst hN
  have he := enters_ hf hname hb args w
  have hrun : (execOp a.eval oi).run P w = .ok (.enter f args) w := by
    unfold execOp
    simp [hop, resolve, Deferred.ofValue, invoke, Act.eval, hargs, he]
  unfold Oper.wp
  rw [hrun, Oper.upon_enter]
  refine h.mono fun e w'' hh => ?_
  obtain ⟨c, rfl, hk⟩ := hh
  exact hk
end
end Go.Proofs.YtefambkodalomaaG
