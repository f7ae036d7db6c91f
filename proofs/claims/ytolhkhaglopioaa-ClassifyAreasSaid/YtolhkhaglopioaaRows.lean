/-
  No cell of these rows narrows 'for every input' (looked for: loops, veiled, ifaces, maps, wideKeys, modest, calm, conditions, laid).
  DERIVED. THE GIVEN ROWS OF THIS SEAT. 4 by the template 'for every input the law returns true; each argument reads behind the call as it read before'; 0 by the template 'total and deterministic' (their statements: YtolhkhaglopioaaTotals.lean).
  GIVEN WITH THE SEED: the statements are not yours to turn. If you find one false, say at which input.
  Laid BY PROGRAM, IN A SANDBOX (cutbox-rows.mjs): the forced cells as the released guide's own fill.sh prints them over the translation d435cd6171d2ca1a… (all of the seat's roots in one cut). By AI agents, Wed Nov 11 2026. No macro, syntax, notation, axiom, sorry.
-/
import Derived.Test.YtolhkhaglopioaaChecked
import GoSem.Claim
import GoSem.ClaimJoined
import GoSem.ClaimMapViews
import Derived.JoinedTies
import Derived.KernelRfl
namespace Go.Proofs.Ytolhkhaglopioaa
/- THE CELL 'sum', in the pinned program and in every row, IS THE sha256 OF THE DUMP (.gsa) THAT YtolhkhaglopioaaProg.lean LOADS. Nothing in Lean hashes anything: it is a label: what it is worth is what the hold of that sum in a sandbox is worth. -/
noncomputable def Try.pinned : Pinned := { name := "ytolhkhaglopioaa", sum := "d435cd6171d2ca1a6c2a8dd36d11b0b3cdedf3a319f039654a926db74ab18f65", checked := Try.checked }
namespace Rows
def none {H : Type} : Left H := { results := [], args := [] }

/-- 'mapmakerlaw18.ClassifyThemes': WHATEVER THE INPUT: true; the input reads as it did. -/
def classifyThemesSpec : ChangeSpec := { name := "classifyThemes", fn := fun _ => fun
  | [d] => { results := [.lit (.bool true)], args := [d] }
  | _ => none }
def classifyThemesRow : OpenClaim := { program := "ytolhkhaglopioaa", sum := "d435cd6171d2ca1a6c2a8dd36d11b0b3cdedf3a319f039654a926db74ab18f65", func := "mapmaker/mapmakerlaw18.ClassifyThemes", spec := "classifyThemes", unfollowed := true, recurses := true, apart := false }
def ClassifyThemesSaid : Prop := classifyThemesRow.holds Try.pinned (OpenSpec.ofChange classifyThemesSpec)

/-- ITS FALSE NEIGHBOUR: 'it returns false'. Refute it at one input. -/
def classifyThemesWrong : ChangeSpec := { name := "classifyThemes", fn := fun _ => fun
  | [d] => { results := [.lit (.bool false)], args := [d] }
  | _ => none }
def ClassifyThemesWrongFalsely : Prop := classifyThemesRow.holds Try.pinned (OpenSpec.ofChange classifyThemesWrong)

/-- 'mapmakerlaw18.ClassifyRoads': WHATEVER THE INPUT: true; the input reads as it did. -/
def classifyRoadsSpec : ChangeSpec := { name := "classifyRoads", fn := fun _ => fun
  | [d1, d2] => { results := [.lit (.bool true)], args := [d1, d2] }
  | _ => none }
def classifyRoadsRow : OpenClaim := { program := "ytolhkhaglopioaa", sum := "d435cd6171d2ca1a6c2a8dd36d11b0b3cdedf3a319f039654a926db74ab18f65", func := "mapmaker/mapmakerlaw18.ClassifyRoads", spec := "classifyRoads", unfollowed := true, recurses := true, apart := false }
def ClassifyRoadsSaid : Prop := classifyRoadsRow.holds Try.pinned (OpenSpec.ofChange classifyRoadsSpec)

/-- ITS FALSE NEIGHBOUR: 'it returns false'. Refute it at one input. -/
def classifyRoadsWrong : ChangeSpec := { name := "classifyRoads", fn := fun _ => fun
  | [d1, d2] => { results := [.lit (.bool false)], args := [d1, d2] }
  | _ => none }
def ClassifyRoadsWrongFalsely : Prop := classifyRoadsRow.holds Try.pinned (OpenSpec.ofChange classifyRoadsWrong)

/-- 'mapmakerlaw18.ClassifyAreas': WHATEVER THE INPUT: true; the input reads as it did. -/
def classifyAreasSpec : ChangeSpec := { name := "classifyAreas", fn := fun _ => fun
  | [d] => { results := [.lit (.bool true)], args := [d] }
  | _ => none }
def classifyAreasRow : OpenClaim := { program := "ytolhkhaglopioaa", sum := "d435cd6171d2ca1a6c2a8dd36d11b0b3cdedf3a319f039654a926db74ab18f65", func := "mapmaker/mapmakerlaw18.ClassifyAreas", spec := "classifyAreas", inPlace := ["slices.overlaps[mapmaker/api.Tag]"], unfollowed := true, recurses := true, apart := false }
def ClassifyAreasSaid : Prop := classifyAreasRow.holds Try.pinned (OpenSpec.ofChange classifyAreasSpec)

/-- ITS FALSE NEIGHBOUR: 'it returns false'. Refute it at one input. -/
def classifyAreasWrong : ChangeSpec := { name := "classifyAreas", fn := fun _ => fun
  | [d] => { results := [.lit (.bool false)], args := [d] }
  | _ => none }
def ClassifyAreasWrongFalsely : Prop := classifyAreasRow.holds Try.pinned (OpenSpec.ofChange classifyAreasWrong)

/-- 'mapmakerlaw18.ClassifyKeys': WHATEVER THE INPUT: true; the input reads as it did. -/
def classifyKeysSpec : ChangeSpec := { name := "classifyKeys", fn := fun _ => fun
  | [d1, d2] => { results := [.lit (.bool true)], args := [d1, d2] }
  | _ => none }
def classifyKeysRow : OpenClaim := { program := "ytolhkhaglopioaa", sum := "d435cd6171d2ca1a6c2a8dd36d11b0b3cdedf3a319f039654a926db74ab18f65", func := "mapmaker/mapmakerlaw18.ClassifyKeys", spec := "classifyKeys", inPlace := ["slices.overlaps[mapmaker/api.Tag]"], unfollowed := true, recurses := true, apart := false }
def ClassifyKeysSaid : Prop := classifyKeysRow.holds Try.pinned (OpenSpec.ofChange classifyKeysSpec)

/-- ITS FALSE NEIGHBOUR: 'it returns false'. Refute it at one input. -/
def classifyKeysWrong : ChangeSpec := { name := "classifyKeys", fn := fun _ => fun
  | [d1, d2] => { results := [.lit (.bool false)], args := [d1, d2] }
  | _ => none }
def ClassifyKeysWrongFalsely : Prop := classifyKeysRow.holds Try.pinned (OpenSpec.ofChange classifyKeysWrong)

/- THE SECOND FORM. 'bulk': how many values and letters a reading holds, each counted each time it is reached (what is shared counts as often as it is met; a slice's spare places count too). A statement '..UptoSaid' is the law's where the arguments, and the package variables that the reading takes, are together of bulk at most 1048576: NARROWER than '..Said'. Prove '..Said' where nothing that the law and all that it calls make is longer than what came in: it says more and counts as full. Else prove '..UptoSaid'. A law counts once. -/
mutual
def uptoBulk {H : Type} : DataW H → Nat
  | .lit (.string bytes) => bytes.length + 1
  | .lit _ => 1
  | .nil => 1
  | .ptr d => uptoBulk d + 1
  | .slice elems spare => uptoBulkAll elems + uptoBulkAll spare + 1
  | .agg parts => uptoBulkAll parts + 1
  | .iface _ d => uptoBulk d + 1
  | .map entries => uptoBulkEntries entries + 1
  | .held _ => 1
def uptoBulkAll {H : Type} : List (DataW H) → Nat
  | [] => 0
  | d :: r => uptoBulk d + uptoBulkAll r
def uptoBulkEntries {H : Type} : List (Lit × DataW H) → Nat
  | [] => 0
  | x :: r => uptoBulkEntry x + uptoBulkEntries r
def uptoBulkEntry {H : Type} : Lit × DataW H → Nat
  | (.string bytes, d) => bytes.length + uptoBulk d + 1
  | (_, d) => uptoBulk d + 1
 end
def uptoSmall : (H : Type) → List (DataW H) → Bool := fun _ ds => decide (uptoBulkAll ds ≤ 1048576)
def OpenSpec.upto (s : _root_.Go.ChangeSpec) : _root_.Go.OpenSpec := { _root_.Go.OpenSpec.ofChange s with cond := some uptoSmall }

/-- 'mapmakerlaw18.ClassifyThemes', WHERE WHAT IT READS IS OF BULK AT MOST 1048576: true; the input reads as it did. -/
def classifyThemesUptoRow : OpenClaim := { program := "ytolhkhaglopioaa", sum := "d435cd6171d2ca1a6c2a8dd36d11b0b3cdedf3a319f039654a926db74ab18f65", func := "mapmaker/mapmakerlaw18.ClassifyThemes", spec := "classifyThemes", unfollowed := true, recurses := true, apart := false, narrowed := true }
def ClassifyThemesUptoSaid : Prop := classifyThemesUptoRow.holds Try.pinned (OpenSpec.upto classifyThemesSpec)

/-- 'mapmakerlaw18.ClassifyRoads', WHERE WHAT IT READS IS OF BULK AT MOST 1048576: true; the input reads as it did. -/
def classifyRoadsUptoRow : OpenClaim := { program := "ytolhkhaglopioaa", sum := "d435cd6171d2ca1a6c2a8dd36d11b0b3cdedf3a319f039654a926db74ab18f65", func := "mapmaker/mapmakerlaw18.ClassifyRoads", spec := "classifyRoads", unfollowed := true, recurses := true, apart := false, narrowed := true }
def ClassifyRoadsUptoSaid : Prop := classifyRoadsUptoRow.holds Try.pinned (OpenSpec.upto classifyRoadsSpec)

/-- 'mapmakerlaw18.ClassifyAreas', WHERE WHAT IT READS IS OF BULK AT MOST 1048576: true; the input reads as it did. -/
def classifyAreasUptoRow : OpenClaim := { program := "ytolhkhaglopioaa", sum := "d435cd6171d2ca1a6c2a8dd36d11b0b3cdedf3a319f039654a926db74ab18f65", func := "mapmaker/mapmakerlaw18.ClassifyAreas", spec := "classifyAreas", inPlace := ["slices.overlaps[mapmaker/api.Tag]"], unfollowed := true, recurses := true, apart := false, narrowed := true }
def ClassifyAreasUptoSaid : Prop := classifyAreasUptoRow.holds Try.pinned (OpenSpec.upto classifyAreasSpec)

/-- 'mapmakerlaw18.ClassifyKeys', WHERE WHAT IT READS IS OF BULK AT MOST 1048576: true; the input reads as it did. -/
def classifyKeysUptoRow : OpenClaim := { program := "ytolhkhaglopioaa", sum := "d435cd6171d2ca1a6c2a8dd36d11b0b3cdedf3a319f039654a926db74ab18f65", func := "mapmaker/mapmakerlaw18.ClassifyKeys", spec := "classifyKeys", inPlace := ["slices.overlaps[mapmaker/api.Tag]"], unfollowed := true, recurses := true, apart := false, narrowed := true }
def ClassifyKeysUptoSaid : Prop := classifyKeysUptoRow.holds Try.pinned (OpenSpec.upto classifyKeysSpec)

end Rows
end Go.Proofs.Ytolhkhaglopioaa
