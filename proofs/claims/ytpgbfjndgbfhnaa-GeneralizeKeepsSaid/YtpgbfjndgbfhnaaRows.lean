/-
  No cell of these rows narrows 'for every input' (looked for: loops, veiled, ifaces, maps, wideKeys, modest, calm, conditions, laid).
  DERIVED. THE GIVEN ROWS OF THIS SEAT. 4 by the template 'for every input the law returns true; each argument reads behind the call as it read before'; 0 by the template 'total and deterministic' (their statements: YtpgbfjndgbfhnaaTotals.lean).
  GIVEN WITH THE SEED: the statements are not yours to turn. If you find one false, say at which input.
  Laid BY PROGRAM, IN A SANDBOX (cutbox-rows.mjs): the forced cells as the released guide's own fill.sh prints them over the translation 1e0e5d431d97b926… (all of the seat's roots in one cut). By AI agents, Wed Nov 11 2026. No macro, syntax, notation, axiom, sorry.
-/
import Derived.Test.YtpgbfjndgbfhnaaChecked
import GoSem.Claim
import GoSem.ClaimJoined
import GoSem.ClaimMapViews
import Derived.JoinedTies
import Derived.KernelRfl
namespace Go.Proofs.Ytpgbfjndgbfhnaa
/- THE CELL 'sum', in the pinned program and in every row, IS THE sha256 OF THE DUMP (.gsa) THAT YtpgbfjndgbfhnaaProg.lean LOADS. Nothing in Lean hashes anything: it is a label: what it is worth is what the hold of that sum in a sandbox is worth. -/
noncomputable def Try.pinned : Pinned := { name := "ytpgbfjndgbfhnaa", sum := "1e0e5d431d97b9269e309df0fb9c437f6279d36784bf3f28512f3f6891f6f6ec", checked := Try.checked }
namespace Rows
def none {H : Type} : Left H := { results := [], args := [] }

/-- 'mapmakerlaw26.GeneralizeFixes': WHATEVER THE INPUT: true; the input reads as it did. -/
def generalizeFixesSpec : ChangeSpec := { name := "generalizeFixes", fn := fun _ => fun
  | [d] => { results := [.lit (.bool true)], args := [d] }
  | _ => none }
def generalizeFixesRow : OpenClaim := { program := "ytpgbfjndgbfhnaa", sum := "1e0e5d431d97b9269e309df0fb9c437f6279d36784bf3f28512f3f6891f6f6ec", func := "mapmaker/mapmakerlaw26.GeneralizeFixes", spec := "generalizeFixes", unfollowed := true, recurses := true, plainKeys := false, apart := false }
def GeneralizeFixesSaid : Prop := generalizeFixesRow.holds Try.pinned (OpenSpec.ofChange generalizeFixesSpec)

/-- ITS FALSE NEIGHBOUR: 'it returns false'. Refute it at one input. -/
def generalizeFixesWrong : ChangeSpec := { name := "generalizeFixes", fn := fun _ => fun
  | [d] => { results := [.lit (.bool false)], args := [d] }
  | _ => none }
def GeneralizeFixesWrongFalsely : Prop := generalizeFixesRow.holds Try.pinned (OpenSpec.ofChange generalizeFixesWrong)

/-- 'mapmakerlaw26.GeneralizeLine': WHATEVER THE INPUT: true; the input reads as it did. -/
def generalizeLineSpec : ChangeSpec := { name := "generalizeLine", fn := fun _ => fun
  | [d1, d2, d3] => { results := [.lit (.bool true)], args := [d1, d2, d3] }
  | _ => none }
def generalizeLineRow : OpenClaim := { program := "ytpgbfjndgbfhnaa", sum := "1e0e5d431d97b9269e309df0fb9c437f6279d36784bf3f28512f3f6891f6f6ec", func := "mapmaker/mapmakerlaw26.GeneralizeLine", spec := "generalizeLine", unfollowed := true, recurses := true, plainKeys := false, apart := false }
def GeneralizeLineSaid : Prop := generalizeLineRow.holds Try.pinned (OpenSpec.ofChange generalizeLineSpec)

/-- ITS FALSE NEIGHBOUR: 'it returns false'. Refute it at one input. -/
def generalizeLineWrong : ChangeSpec := { name := "generalizeLine", fn := fun _ => fun
  | [d1, d2, d3] => { results := [.lit (.bool false)], args := [d1, d2, d3] }
  | _ => none }
def GeneralizeLineWrongFalsely : Prop := generalizeLineRow.holds Try.pinned (OpenSpec.ofChange generalizeLineWrong)

/-- 'mapmakerlaw26.GeneralizeLines': WHATEVER THE INPUT: true; the input reads as it did. -/
def generalizeLinesSpec : ChangeSpec := { name := "generalizeLines", fn := fun _ => fun
  | [d1, d2] => { results := [.lit (.bool true)], args := [d1, d2] }
  | _ => none }
def generalizeLinesRow : OpenClaim := { program := "ytpgbfjndgbfhnaa", sum := "1e0e5d431d97b9269e309df0fb9c437f6279d36784bf3f28512f3f6891f6f6ec", func := "mapmaker/mapmakerlaw26.GeneralizeLines", spec := "generalizeLines", unfollowed := true, recurses := true, plainKeys := false, apart := false }
def GeneralizeLinesSaid : Prop := generalizeLinesRow.holds Try.pinned (OpenSpec.ofChange generalizeLinesSpec)

/-- ITS FALSE NEIGHBOUR: 'it returns false'. Refute it at one input. -/
def generalizeLinesWrong : ChangeSpec := { name := "generalizeLines", fn := fun _ => fun
  | [d1, d2] => { results := [.lit (.bool false)], args := [d1, d2] }
  | _ => none }
def GeneralizeLinesWrongFalsely : Prop := generalizeLinesRow.holds Try.pinned (OpenSpec.ofChange generalizeLinesWrong)

/-- 'mapmakerlaw26.GeneralizeKeeps': WHATEVER THE INPUT: true; the input reads as it did. -/
def generalizeKeepsSpec : ChangeSpec := { name := "generalizeKeeps", fn := fun _ => fun
  | [d1, d2] => { results := [.lit (.bool true)], args := [d1, d2] }
  | _ => none }
def generalizeKeepsRow : OpenClaim := { program := "ytpgbfjndgbfhnaa", sum := "1e0e5d431d97b9269e309df0fb9c437f6279d36784bf3f28512f3f6891f6f6ec", func := "mapmaker/mapmakerlaw26.GeneralizeKeeps", spec := "generalizeKeeps", unfollowed := true, recurses := true, plainKeys := false, apart := false }
def GeneralizeKeepsSaid : Prop := generalizeKeepsRow.holds Try.pinned (OpenSpec.ofChange generalizeKeepsSpec)

/-- ITS FALSE NEIGHBOUR: 'it returns false'. Refute it at one input. -/
def generalizeKeepsWrong : ChangeSpec := { name := "generalizeKeeps", fn := fun _ => fun
  | [d1, d2] => { results := [.lit (.bool false)], args := [d1, d2] }
  | _ => none }
def GeneralizeKeepsWrongFalsely : Prop := generalizeKeepsRow.holds Try.pinned (OpenSpec.ofChange generalizeKeepsWrong)

/- THE SECOND FORM. 'bulk': how many values and letters a reading holds, each counted each time it is reached (what is shared counts as often as it is met; a slice's spare places count too). A statement '..UptoSaid' is the law's where the arguments, and the package variables that the reading takes, are together of bulk at most 1048576: NARROWER than '..Said'. Prove '..Said' where nothing that the law and all that it calls make is longer than what came in: it says more and counts as full. Else prove '..UptoSaid'. A law counts once. -/
mutual
def uptoBulk {H : Type} : DataW H → Nat
  | .lit (.string bytes) => bytes.length + 1
  | .lit _ => 1
  | .nil => 1
  | .ptr d => uptoBulk d + 1
  | .slice elems spare => uptoBulkAll elems + uptoBulkAll spare + 1
  | .agg parts => uptoBulkAll parts + 1
  | .iface _ d => uptoBulk d + 1
  | .map entries => uptoBulkEntries entries + 1
  | .held _ => 1
def uptoBulkAll {H : Type} : List (DataW H) → Nat
  | [] => 0
  | d :: r => uptoBulk d + uptoBulkAll r
def uptoBulkEntries {H : Type} : List (Lit × DataW H) → Nat
  | [] => 0
  | x :: r => uptoBulkEntry x + uptoBulkEntries r
def uptoBulkEntry {H : Type} : Lit × DataW H → Nat
  | (.string bytes, d) => bytes.length + uptoBulk d + 1
  | (_, d) => uptoBulk d + 1
 end
def uptoSmall : (H : Type) → List (DataW H) → Bool := fun _ ds => decide (uptoBulkAll ds ≤ 1048576)
def OpenSpec.upto (s : _root_.Go.ChangeSpec) : _root_.Go.OpenSpec := { _root_.Go.OpenSpec.ofChange s with cond := some uptoSmall }

/-- 'mapmakerlaw26.GeneralizeFixes', WHERE WHAT IT READS IS OF BULK AT MOST 1048576: true; the input reads as it did. -/
def generalizeFixesUptoRow : OpenClaim := { program := "ytpgbfjndgbfhnaa", sum := "1e0e5d431d97b9269e309df0fb9c437f6279d36784bf3f28512f3f6891f6f6ec", func := "mapmaker/mapmakerlaw26.GeneralizeFixes", spec := "generalizeFixes", unfollowed := true, recurses := true, plainKeys := false, apart := false, narrowed := true }
def GeneralizeFixesUptoSaid : Prop := generalizeFixesUptoRow.holds Try.pinned (OpenSpec.upto generalizeFixesSpec)

/-- 'mapmakerlaw26.GeneralizeLine', WHERE WHAT IT READS IS OF BULK AT MOST 1048576: true; the input reads as it did. -/
def generalizeLineUptoRow : OpenClaim := { program := "ytpgbfjndgbfhnaa", sum := "1e0e5d431d97b9269e309df0fb9c437f6279d36784bf3f28512f3f6891f6f6ec", func := "mapmaker/mapmakerlaw26.GeneralizeLine", spec := "generalizeLine", unfollowed := true, recurses := true, plainKeys := false, apart := false, narrowed := true }
def GeneralizeLineUptoSaid : Prop := generalizeLineUptoRow.holds Try.pinned (OpenSpec.upto generalizeLineSpec)

/-- 'mapmakerlaw26.GeneralizeLines', WHERE WHAT IT READS IS OF BULK AT MOST 1048576: true; the input reads as it did. -/
def generalizeLinesUptoRow : OpenClaim := { program := "ytpgbfjndgbfhnaa", sum := "1e0e5d431d97b9269e309df0fb9c437f6279d36784bf3f28512f3f6891f6f6ec", func := "mapmaker/mapmakerlaw26.GeneralizeLines", spec := "generalizeLines", unfollowed := true, recurses := true, plainKeys := false, apart := false, narrowed := true }
def GeneralizeLinesUptoSaid : Prop := generalizeLinesUptoRow.holds Try.pinned (OpenSpec.upto generalizeLinesSpec)

/-- 'mapmakerlaw26.GeneralizeKeeps', WHERE WHAT IT READS IS OF BULK AT MOST 1048576: true; the input reads as it did. -/
def generalizeKeepsUptoRow : OpenClaim := { program := "ytpgbfjndgbfhnaa", sum := "1e0e5d431d97b9269e309df0fb9c437f6279d36784bf3f28512f3f6891f6f6ec", func := "mapmaker/mapmakerlaw26.GeneralizeKeeps", spec := "generalizeKeeps", unfollowed := true, recurses := true, plainKeys := false, apart := false, narrowed := true }
def GeneralizeKeepsUptoSaid : Prop := generalizeKeepsUptoRow.holds Try.pinned (OpenSpec.upto generalizeKeepsSpec)

end Rows
end Go.Proofs.Ytpgbfjndgbfhnaa
