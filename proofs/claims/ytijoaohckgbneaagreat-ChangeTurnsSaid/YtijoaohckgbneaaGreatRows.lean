/-
  No cell of these rows narrows 'for every input' (looked for: loops, veiled, ifaces, maps, wideKeys, modest, calm, conditions, laid).
  DERIVED. THE GIVEN ROWS OF THIS SEAT. 4 by the template 'for every input the law returns true; each argument reads behind the call as it read before'; 0 by the template 'total and deterministic' (their statements: YtijoaohckgbneaaGreatTotals.lean).
  GIVEN WITH THE SEED: the statements are not yours to turn. If you find one false, say at which input.
  Laid BY PROGRAM, IN A SANDBOX (cutbox-rows.mjs): the forced cells as the released guide's own fill.sh prints them over the translation e2e7cdf20283ed2a… (all of the seat's roots in one cut). By AI agents, Wed Nov 11 2026. No macro, syntax, notation, axiom, sorry.
-/
import Derived.Test.YtijoaohckgbneaaGreatChecked
import GoSem.Claim
import GoSem.ClaimJoined
import GoSem.ClaimMapViews
import Derived.JoinedTies
import Derived.KernelRfl
namespace Go.Proofs.YtijoaohckgbneaaGreat
/- THE CELL 'sum', in the pinned program and in every row, IS THE sha256 OF THE DUMP (.gsa) THAT YtijoaohckgbneaaGreatProg.lean LOADS. Nothing in Lean hashes anything: it is a label: what it is worth is what the hold of that sum in a sandbox is worth. -/
noncomputable def Tryz.pinned : Pinned := { name := "ytijoaohckgbneaagreat", sum := "e2e7cdf20283ed2aa069dfc113d7d12c1cb9a1950d74bfaa204183e759cfd3c5", checked := Tryz.checked }
namespace Rows
def none {H : Type} : Left H := { results := [], args := [] }

/-- 'mapmakerlaw15.ChangeApplies': WHATEVER THE INPUT: true; the input reads as it did. -/
def changeAppliesSpec : ChangeSpec := { name := "changeApplies", fn := fun _ => fun
  | [d1, d2] => { results := [.lit (.bool true)], args := [d1, d2] }
  | _ => none }
def changeAppliesRow : OpenClaim := { program := "ytijoaohckgbneaagreat", sum := "e2e7cdf20283ed2aa069dfc113d7d12c1cb9a1950d74bfaa204183e759cfd3c5", func := "mapmaker/mapmakerlaw15.ChangeApplies", spec := "changeApplies", unfollowed := true, recurses := true, apart := false }
def ChangeAppliesSaid : Prop := changeAppliesRow.holds Tryz.pinned (OpenSpec.ofChange changeAppliesSpec)

/-- ITS FALSE NEIGHBOUR: 'it returns false'. Refute it at one input. -/
def changeAppliesWrong : ChangeSpec := { name := "changeApplies", fn := fun _ => fun
  | [d1, d2] => { results := [.lit (.bool false)], args := [d1, d2] }
  | _ => none }
def ChangeAppliesWrongFalsely : Prop := changeAppliesRow.holds Tryz.pinned (OpenSpec.ofChange changeAppliesWrong)

/-- 'mapmakerlaw15.ChangeUndoes': WHATEVER THE INPUT: true; the input reads as it did. -/
def changeUndoesSpec : ChangeSpec := { name := "changeUndoes", fn := fun _ => fun
  | [d1, d2] => { results := [.lit (.bool true)], args := [d1, d2] }
  | _ => none }
def changeUndoesRow : OpenClaim := { program := "ytijoaohckgbneaagreat", sum := "e2e7cdf20283ed2aa069dfc113d7d12c1cb9a1950d74bfaa204183e759cfd3c5", func := "mapmaker/mapmakerlaw15.ChangeUndoes", spec := "changeUndoes", unfollowed := true, recurses := true, apart := false }
def ChangeUndoesSaid : Prop := changeUndoesRow.holds Tryz.pinned (OpenSpec.ofChange changeUndoesSpec)

/-- ITS FALSE NEIGHBOUR: 'it returns false'. Refute it at one input. -/
def changeUndoesWrong : ChangeSpec := { name := "changeUndoes", fn := fun _ => fun
  | [d1, d2] => { results := [.lit (.bool false)], args := [d1, d2] }
  | _ => none }
def ChangeUndoesWrongFalsely : Prop := changeUndoesRow.holds Tryz.pinned (OpenSpec.ofChange changeUndoesWrong)

/-- 'mapmakerlaw15.ChangeDiffs': WHATEVER THE INPUT: true; the input reads as it did. -/
def changeDiffsSpec : ChangeSpec := { name := "changeDiffs", fn := fun _ => fun
  | [d1, d2] => { results := [.lit (.bool true)], args := [d1, d2] }
  | _ => none }
def changeDiffsRow : OpenClaim := { program := "ytijoaohckgbneaagreat", sum := "e2e7cdf20283ed2aa069dfc113d7d12c1cb9a1950d74bfaa204183e759cfd3c5", func := "mapmaker/mapmakerlaw15.ChangeDiffs", spec := "changeDiffs", unfollowed := true, recurses := true, apart := false }
def ChangeDiffsSaid : Prop := changeDiffsRow.holds Tryz.pinned (OpenSpec.ofChange changeDiffsSpec)

/-- ITS FALSE NEIGHBOUR: 'it returns false'. Refute it at one input. -/
def changeDiffsWrong : ChangeSpec := { name := "changeDiffs", fn := fun _ => fun
  | [d1, d2] => { results := [.lit (.bool false)], args := [d1, d2] }
  | _ => none }
def ChangeDiffsWrongFalsely : Prop := changeDiffsRow.holds Tryz.pinned (OpenSpec.ofChange changeDiffsWrong)

/-- 'mapmakerlaw15.ChangeTurns': WHATEVER THE INPUT: true; the input reads as it did. -/
def changeTurnsSpec : ChangeSpec := { name := "changeTurns", fn := fun _ => fun
  | [d1, d2] => { results := [.lit (.bool true)], args := [d1, d2] }
  | _ => none }
def changeTurnsRow : OpenClaim := { program := "ytijoaohckgbneaagreat", sum := "e2e7cdf20283ed2aa069dfc113d7d12c1cb9a1950d74bfaa204183e759cfd3c5", func := "mapmaker/mapmakerlaw15.ChangeTurns", spec := "changeTurns", unfollowed := true, recurses := true, apart := false }
def ChangeTurnsSaid : Prop := changeTurnsRow.holds Tryz.pinned (OpenSpec.ofChange changeTurnsSpec)

/-- ITS FALSE NEIGHBOUR: 'it returns false'. Refute it at one input. -/
def changeTurnsWrong : ChangeSpec := { name := "changeTurns", fn := fun _ => fun
  | [d1, d2] => { results := [.lit (.bool false)], args := [d1, d2] }
  | _ => none }
def ChangeTurnsWrongFalsely : Prop := changeTurnsRow.holds Tryz.pinned (OpenSpec.ofChange changeTurnsWrong)

/- THE SECOND FORM. 'bulk': how many values and letters a reading holds, each counted each time it is reached (what is shared counts as often as it is met; a slice's spare places count too). A statement '..UptoSaid' is the law's where the arguments, and the package variables that the reading takes, are together of bulk at most 1048576: NARROWER than '..Said'. Prove '..Said' where nothing that the law and all that it calls make is longer than what came in: it says more and counts as full. Else prove '..UptoSaid'. A law counts once. -/
mutual
def uptoBulk {H : Type} : DataW H → Nat
  | .lit (.string bytes) => bytes.length + 1
  | .lit _ => 1
  | .nil => 1
  | .ptr d => uptoBulk d + 1
  | .slice elems spare => uptoBulkAll elems + uptoBulkAll spare + 1
  | .agg parts => uptoBulkAll parts + 1
  | .iface _ d => uptoBulk d + 1
  | .map entries => uptoBulkEntries entries + 1
  | .held _ => 1
def uptoBulkAll {H : Type} : List (DataW H) → Nat
  | [] => 0
  | d :: r => uptoBulk d + uptoBulkAll r
def uptoBulkEntries {H : Type} : List (Lit × DataW H) → Nat
  | [] => 0
  | x :: r => uptoBulkEntry x + uptoBulkEntries r
def uptoBulkEntry {H : Type} : Lit × DataW H → Nat
  | (.string bytes, d) => bytes.length + uptoBulk d + 1
  | (_, d) => uptoBulk d + 1
 end
def uptoSmall : (H : Type) → List (DataW H) → Bool := fun _ ds => decide (uptoBulkAll ds ≤ 1048576)
def OpenSpec.upto (s : _root_.Go.ChangeSpec) : _root_.Go.OpenSpec := { _root_.Go.OpenSpec.ofChange s with cond := some uptoSmall }

/-- 'mapmakerlaw15.ChangeApplies', WHERE WHAT IT READS IS OF BULK AT MOST 1048576: true; the input reads as it did. -/
def changeAppliesUptoRow : OpenClaim := { program := "ytijoaohckgbneaagreat", sum := "e2e7cdf20283ed2aa069dfc113d7d12c1cb9a1950d74bfaa204183e759cfd3c5", func := "mapmaker/mapmakerlaw15.ChangeApplies", spec := "changeApplies", unfollowed := true, recurses := true, apart := false, narrowed := true }
def ChangeAppliesUptoSaid : Prop := changeAppliesUptoRow.holds Tryz.pinned (OpenSpec.upto changeAppliesSpec)

/-- 'mapmakerlaw15.ChangeUndoes', WHERE WHAT IT READS IS OF BULK AT MOST 1048576: true; the input reads as it did. -/
def changeUndoesUptoRow : OpenClaim := { program := "ytijoaohckgbneaagreat", sum := "e2e7cdf20283ed2aa069dfc113d7d12c1cb9a1950d74bfaa204183e759cfd3c5", func := "mapmaker/mapmakerlaw15.ChangeUndoes", spec := "changeUndoes", unfollowed := true, recurses := true, apart := false, narrowed := true }
def ChangeUndoesUptoSaid : Prop := changeUndoesUptoRow.holds Tryz.pinned (OpenSpec.upto changeUndoesSpec)

/-- 'mapmakerlaw15.ChangeDiffs', WHERE WHAT IT READS IS OF BULK AT MOST 1048576: true; the input reads as it did. -/
def changeDiffsUptoRow : OpenClaim := { program := "ytijoaohckgbneaagreat", sum := "e2e7cdf20283ed2aa069dfc113d7d12c1cb9a1950d74bfaa204183e759cfd3c5", func := "mapmaker/mapmakerlaw15.ChangeDiffs", spec := "changeDiffs", unfollowed := true, recurses := true, apart := false, narrowed := true }
def ChangeDiffsUptoSaid : Prop := changeDiffsUptoRow.holds Tryz.pinned (OpenSpec.upto changeDiffsSpec)

/-- 'mapmakerlaw15.ChangeTurns', WHERE WHAT IT READS IS OF BULK AT MOST 1048576: true; the input reads as it did. -/
def changeTurnsUptoRow : OpenClaim := { program := "ytijoaohckgbneaagreat", sum := "e2e7cdf20283ed2aa069dfc113d7d12c1cb9a1950d74bfaa204183e759cfd3c5", func := "mapmaker/mapmakerlaw15.ChangeTurns", spec := "changeTurns", unfollowed := true, recurses := true, apart := false, narrowed := true }
def ChangeTurnsUptoSaid : Prop := changeTurnsUptoRow.holds Tryz.pinned (OpenSpec.upto changeTurnsSpec)

end Rows
end Go.Proofs.YtijoaohckgbneaaGreat
