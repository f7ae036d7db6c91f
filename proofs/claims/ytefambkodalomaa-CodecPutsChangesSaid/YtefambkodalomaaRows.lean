/-
  No cell of these rows narrows 'for every input' (looked for: loops, veiled, ifaces, maps, wideKeys, modest, calm, conditions, laid).
  DERIVED. THE GIVEN ROWS OF THIS SEAT. 7 by the template 'for every input the law returns true; each argument reads behind the call as it read before'; 0 by the template 'total and deterministic' (their statements: YtefambkodalomaaTotals.lean).
  GIVEN WITH THE SEED: the statements are not yours to turn. If you find one false, say at which input.
  Laid BY PROGRAM, IN A SANDBOX (cutbox-rows.mjs): the forced cells as the released guide's own fill.sh prints them over the translation e608e5ed60ffa0fd… (all of the seat's roots in one cut). By AI agents, Wed Nov 11 2026. No macro, syntax, notation, axiom, sorry.
-/
import Derived.Test.YtefambkodalomaaChecked
import GoSem.Claim
import GoSem.ClaimJoined
import GoSem.ClaimMapViews
import Derived.JoinedTies
import Derived.KernelRfl
namespace Go.Proofs.Ytefambkodalomaa
/- THE CELL 'sum', in the pinned program and in every row, IS THE sha256 OF THE DUMP (.gsa) THAT YtefambkodalomaaProg.lean LOADS. Nothing in Lean hashes anything: it is a label: what it is worth is what the hold of that sum in a sandbox is worth. -/
noncomputable def Try.pinned : Pinned := { name := "ytefambkodalomaa", sum := "e608e5ed60ffa0fd0df971cf90e1aed6a91dae0eb49f8fdb6e8345175b0c47cc", checked := Try.checked }
namespace Rows
def none {H : Type} : Left H := { results := [], args := [] }

/-- 'mapmakerlaw16.CodecPutsData': WHATEVER THE INPUT: true; the input reads as it did. -/
def codecPutsDataSpec : ChangeSpec := { name := "codecPutsData", fn := fun _ => fun
  | [d] => { results := [.lit (.bool true)], args := [d] }
  | _ => none }
def codecPutsDataRow : OpenClaim := { program := "ytefambkodalomaa", sum := "e608e5ed60ffa0fd0df971cf90e1aed6a91dae0eb49f8fdb6e8345175b0c47cc", func := "mapmaker/mapmakerlaw16.CodecPutsData", spec := "codecPutsData", unfollowed := true, recurses := true, apart := false }
def CodecPutsDataSaid : Prop := codecPutsDataRow.holds Try.pinned (OpenSpec.ofChange codecPutsDataSpec)

/-- ITS FALSE NEIGHBOUR: 'it returns false'. Refute it at one input. -/
def codecPutsDataWrong : ChangeSpec := { name := "codecPutsData", fn := fun _ => fun
  | [d] => { results := [.lit (.bool false)], args := [d] }
  | _ => none }
def CodecPutsDataWrongFalsely : Prop := codecPutsDataRow.holds Try.pinned (OpenSpec.ofChange codecPutsDataWrong)

/-- 'mapmakerlaw16.CodecGetsData': WHATEVER THE INPUT: true; the input reads as it did. -/
def codecGetsDataSpec : ChangeSpec := { name := "codecGetsData", fn := fun _ => fun
  | [d] => { results := [.lit (.bool true)], args := [d] }
  | _ => none }
def codecGetsDataRow : OpenClaim := { program := "ytefambkodalomaa", sum := "e608e5ed60ffa0fd0df971cf90e1aed6a91dae0eb49f8fdb6e8345175b0c47cc", func := "mapmaker/mapmakerlaw16.CodecGetsData", spec := "codecGetsData", unfollowed := true, recurses := true, apart := false }
def CodecGetsDataSaid : Prop := codecGetsDataRow.holds Try.pinned (OpenSpec.ofChange codecGetsDataSpec)

/-- ITS FALSE NEIGHBOUR: 'it returns false'. Refute it at one input. -/
def codecGetsDataWrong : ChangeSpec := { name := "codecGetsData", fn := fun _ => fun
  | [d] => { results := [.lit (.bool false)], args := [d] }
  | _ => none }
def CodecGetsDataWrongFalsely : Prop := codecGetsDataRow.holds Try.pinned (OpenSpec.ofChange codecGetsDataWrong)

/-- 'mapmakerlaw16.CodecPutsChanges': WHATEVER THE INPUT: true; the input reads as it did. -/
def codecPutsChangesSpec : ChangeSpec := { name := "codecPutsChanges", fn := fun _ => fun
  | [d] => { results := [.lit (.bool true)], args := [d] }
  | _ => none }
def codecPutsChangesRow : OpenClaim := { program := "ytefambkodalomaa", sum := "e608e5ed60ffa0fd0df971cf90e1aed6a91dae0eb49f8fdb6e8345175b0c47cc", func := "mapmaker/mapmakerlaw16.CodecPutsChanges", spec := "codecPutsChanges", unfollowed := true, recurses := true, apart := false }
def CodecPutsChangesSaid : Prop := codecPutsChangesRow.holds Try.pinned (OpenSpec.ofChange codecPutsChangesSpec)

/-- ITS FALSE NEIGHBOUR: 'it returns false'. Refute it at one input. -/
def codecPutsChangesWrong : ChangeSpec := { name := "codecPutsChanges", fn := fun _ => fun
  | [d] => { results := [.lit (.bool false)], args := [d] }
  | _ => none }
def CodecPutsChangesWrongFalsely : Prop := codecPutsChangesRow.holds Try.pinned (OpenSpec.ofChange codecPutsChangesWrong)

/-- 'mapmakerlaw16.CodecGetsChanges': WHATEVER THE INPUT: true; the input reads as it did. -/
def codecGetsChangesSpec : ChangeSpec := { name := "codecGetsChanges", fn := fun _ => fun
  | [d] => { results := [.lit (.bool true)], args := [d] }
  | _ => none }
def codecGetsChangesRow : OpenClaim := { program := "ytefambkodalomaa", sum := "e608e5ed60ffa0fd0df971cf90e1aed6a91dae0eb49f8fdb6e8345175b0c47cc", func := "mapmaker/mapmakerlaw16.CodecGetsChanges", spec := "codecGetsChanges", unfollowed := true, recurses := true, apart := false }
def CodecGetsChangesSaid : Prop := codecGetsChangesRow.holds Try.pinned (OpenSpec.ofChange codecGetsChangesSpec)

/-- ITS FALSE NEIGHBOUR: 'it returns false'. Refute it at one input. -/
def codecGetsChangesWrong : ChangeSpec := { name := "codecGetsChanges", fn := fun _ => fun
  | [d] => { results := [.lit (.bool false)], args := [d] }
  | _ => none }
def CodecGetsChangesWrongFalsely : Prop := codecGetsChangesRow.holds Try.pinned (OpenSpec.ofChange codecGetsChangesWrong)

/-- 'mapmakerlaw16.CodecOnce': WHATEVER THE INPUT: true; the input reads as it did. -/
def codecOnceSpec : ChangeSpec := { name := "codecOnce", fn := fun _ => fun
  | [d] => { results := [.lit (.bool true)], args := [d] }
  | _ => none }
def codecOnceRow : OpenClaim := { program := "ytefambkodalomaa", sum := "e608e5ed60ffa0fd0df971cf90e1aed6a91dae0eb49f8fdb6e8345175b0c47cc", func := "mapmaker/mapmakerlaw16.CodecOnce", spec := "codecOnce", unfollowed := true, recurses := true, apart := false }
def CodecOnceSaid : Prop := codecOnceRow.holds Try.pinned (OpenSpec.ofChange codecOnceSpec)

/-- ITS FALSE NEIGHBOUR: 'it returns false'. Refute it at one input. -/
def codecOnceWrong : ChangeSpec := { name := "codecOnce", fn := fun _ => fun
  | [d] => { results := [.lit (.bool false)], args := [d] }
  | _ => none }
def CodecOnceWrongFalsely : Prop := codecOnceRow.holds Try.pinned (OpenSpec.ofChange codecOnceWrong)

/-- 'mapmakerlaw16.CodecCuts': WHATEVER THE INPUT: true; the input reads as it did. -/
def codecCutsSpec : ChangeSpec := { name := "codecCuts", fn := fun _ => fun
  | [d1, d2, d3] => { results := [.lit (.bool true)], args := [d1, d2, d3] }
  | _ => none }
def codecCutsRow : OpenClaim := { program := "ytefambkodalomaa", sum := "e608e5ed60ffa0fd0df971cf90e1aed6a91dae0eb49f8fdb6e8345175b0c47cc", func := "mapmaker/mapmakerlaw16.CodecCuts", spec := "codecCuts", unfollowed := true, recurses := true, apart := false }
def CodecCutsSaid : Prop := codecCutsRow.holds Try.pinned (OpenSpec.ofChange codecCutsSpec)

/-- ITS FALSE NEIGHBOUR: 'it returns false'. Refute it at one input. -/
def codecCutsWrong : ChangeSpec := { name := "codecCuts", fn := fun _ => fun
  | [d1, d2, d3] => { results := [.lit (.bool false)], args := [d1, d2, d3] }
  | _ => none }
def CodecCutsWrongFalsely : Prop := codecCutsRow.holds Try.pinned (OpenSpec.ofChange codecCutsWrong)

/-- 'mapmakerlaw16.CodecBack': WHATEVER THE INPUT: true; the input reads as it did. -/
def codecBackSpec : ChangeSpec := { name := "codecBack", fn := fun _ => fun
  | [d1, d2] => { results := [.lit (.bool true)], args := [d1, d2] }
  | _ => none }
def codecBackRow : OpenClaim := { program := "ytefambkodalomaa", sum := "e608e5ed60ffa0fd0df971cf90e1aed6a91dae0eb49f8fdb6e8345175b0c47cc", func := "mapmaker/mapmakerlaw16.CodecBack", spec := "codecBack", unfollowed := true, recurses := true, apart := false }
def CodecBackSaid : Prop := codecBackRow.holds Try.pinned (OpenSpec.ofChange codecBackSpec)

/-- ITS FALSE NEIGHBOUR: 'it returns false'. Refute it at one input. -/
def codecBackWrong : ChangeSpec := { name := "codecBack", fn := fun _ => fun
  | [d1, d2] => { results := [.lit (.bool false)], args := [d1, d2] }
  | _ => none }
def CodecBackWrongFalsely : Prop := codecBackRow.holds Try.pinned (OpenSpec.ofChange codecBackWrong)

/- THE SECOND FORM. 'bulk': how many values and letters a reading holds, each counted each time it is reached (what is shared counts as often as it is met; a slice's spare places count too). A statement '..UptoSaid' is the law's where the arguments, and the package variables that the reading takes, are together of bulk at most 1048576: NARROWER than '..Said'. Prove '..Said' where nothing that the law and all that it calls make is longer than what came in: it says more and counts as full. Else prove '..UptoSaid'. A law counts once. -/
mutual
def uptoBulk {H : Type} : DataW H → Nat
  | .lit (.string bytes) => bytes.length + 1
  | .lit _ => 1
  | .nil => 1
  | .ptr d => uptoBulk d + 1
  | .slice elems spare => uptoBulkAll elems + uptoBulkAll spare + 1
  | .agg parts => uptoBulkAll parts + 1
  | .iface _ d => uptoBulk d + 1
  | .map entries => uptoBulkEntries entries + 1
  | .held _ => 1
def uptoBulkAll {H : Type} : List (DataW H) → Nat
  | [] => 0
  | d :: r => uptoBulk d + uptoBulkAll r
def uptoBulkEntries {H : Type} : List (Lit × DataW H) → Nat
  | [] => 0
  | x :: r => uptoBulkEntry x + uptoBulkEntries r
def uptoBulkEntry {H : Type} : Lit × DataW H → Nat
  | (.string bytes, d) => bytes.length + uptoBulk d + 1
  | (_, d) => uptoBulk d + 1
 end
def uptoSmall : (H : Type) → List (DataW H) → Bool := fun _ ds => decide (uptoBulkAll ds ≤ 1048576)
def OpenSpec.upto (s : _root_.Go.ChangeSpec) : _root_.Go.OpenSpec := { _root_.Go.OpenSpec.ofChange s with cond := some uptoSmall }

/-- 'mapmakerlaw16.CodecPutsData', WHERE WHAT IT READS IS OF BULK AT MOST 1048576: true; the input reads as it did. -/
def codecPutsDataUptoRow : OpenClaim := { program := "ytefambkodalomaa", sum := "e608e5ed60ffa0fd0df971cf90e1aed6a91dae0eb49f8fdb6e8345175b0c47cc", func := "mapmaker/mapmakerlaw16.CodecPutsData", spec := "codecPutsData", unfollowed := true, recurses := true, apart := false, narrowed := true }
def CodecPutsDataUptoSaid : Prop := codecPutsDataUptoRow.holds Try.pinned (OpenSpec.upto codecPutsDataSpec)

/-- 'mapmakerlaw16.CodecGetsData', WHERE WHAT IT READS IS OF BULK AT MOST 1048576: true; the input reads as it did. -/
def codecGetsDataUptoRow : OpenClaim := { program := "ytefambkodalomaa", sum := "e608e5ed60ffa0fd0df971cf90e1aed6a91dae0eb49f8fdb6e8345175b0c47cc", func := "mapmaker/mapmakerlaw16.CodecGetsData", spec := "codecGetsData", unfollowed := true, recurses := true, apart := false, narrowed := true }
def CodecGetsDataUptoSaid : Prop := codecGetsDataUptoRow.holds Try.pinned (OpenSpec.upto codecGetsDataSpec)

/-- 'mapmakerlaw16.CodecPutsChanges', WHERE WHAT IT READS IS OF BULK AT MOST 1048576: true; the input reads as it did. -/
def codecPutsChangesUptoRow : OpenClaim := { program := "ytefambkodalomaa", sum := "e608e5ed60ffa0fd0df971cf90e1aed6a91dae0eb49f8fdb6e8345175b0c47cc", func := "mapmaker/mapmakerlaw16.CodecPutsChanges", spec := "codecPutsChanges", unfollowed := true, recurses := true, apart := false, narrowed := true }
def CodecPutsChangesUptoSaid : Prop := codecPutsChangesUptoRow.holds Try.pinned (OpenSpec.upto codecPutsChangesSpec)

/-- 'mapmakerlaw16.CodecGetsChanges', WHERE WHAT IT READS IS OF BULK AT MOST 1048576: true; the input reads as it did. -/
def codecGetsChangesUptoRow : OpenClaim := { program := "ytefambkodalomaa", sum := "e608e5ed60ffa0fd0df971cf90e1aed6a91dae0eb49f8fdb6e8345175b0c47cc", func := "mapmaker/mapmakerlaw16.CodecGetsChanges", spec := "codecGetsChanges", unfollowed := true, recurses := true, apart := false, narrowed := true }
def CodecGetsChangesUptoSaid : Prop := codecGetsChangesUptoRow.holds Try.pinned (OpenSpec.upto codecGetsChangesSpec)

/-- 'mapmakerlaw16.CodecOnce', WHERE WHAT IT READS IS OF BULK AT MOST 1048576: true; the input reads as it did. -/
def codecOnceUptoRow : OpenClaim := { program := "ytefambkodalomaa", sum := "e608e5ed60ffa0fd0df971cf90e1aed6a91dae0eb49f8fdb6e8345175b0c47cc", func := "mapmaker/mapmakerlaw16.CodecOnce", spec := "codecOnce", unfollowed := true, recurses := true, apart := false, narrowed := true }
def CodecOnceUptoSaid : Prop := codecOnceUptoRow.holds Try.pinned (OpenSpec.upto codecOnceSpec)

/-- 'mapmakerlaw16.CodecCuts', WHERE WHAT IT READS IS OF BULK AT MOST 1048576: true; the input reads as it did. -/
def codecCutsUptoRow : OpenClaim := { program := "ytefambkodalomaa", sum := "e608e5ed60ffa0fd0df971cf90e1aed6a91dae0eb49f8fdb6e8345175b0c47cc", func := "mapmaker/mapmakerlaw16.CodecCuts", spec := "codecCuts", unfollowed := true, recurses := true, apart := false, narrowed := true }
def CodecCutsUptoSaid : Prop := codecCutsUptoRow.holds Try.pinned (OpenSpec.upto codecCutsSpec)

/-- 'mapmakerlaw16.CodecBack', WHERE WHAT IT READS IS OF BULK AT MOST 1048576: true; the input reads as it did. -/
def codecBackUptoRow : OpenClaim := { program := "ytefambkodalomaa", sum := "e608e5ed60ffa0fd0df971cf90e1aed6a91dae0eb49f8fdb6e8345175b0c47cc", func := "mapmaker/mapmakerlaw16.CodecBack", spec := "codecBack", unfollowed := true, recurses := true, apart := false, narrowed := true }
def CodecBackUptoSaid : Prop := codecBackUptoRow.holds Try.pinned (OpenSpec.upto codecBackSpec)

end Rows
end Go.Proofs.Ytefambkodalomaa
