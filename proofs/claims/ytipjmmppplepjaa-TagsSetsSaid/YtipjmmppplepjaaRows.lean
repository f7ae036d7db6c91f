/-
  No cell of these rows narrows 'for every input' (looked for: loops, veiled, ifaces, maps, wideKeys, modest, calm, conditions, laid).
  DERIVED. THE GIVEN ROWS OF THIS SEAT. 5 by the template 'for every input the law returns true; each argument reads behind the call as it read before'; 0 by the template 'total and deterministic' (their statements: YtipjmmppplepjaaTotals.lean).
  GIVEN WITH THE SEED: the statements are not yours to turn. If you find one false, say at which input.
  Laid BY PROGRAM, IN A SANDBOX (cutbox-rows.mjs): the forced cells as the released guide's own fill.sh prints them over the translation d59fe9d66e9c23ac… (all of the seat's roots in one cut). By AI agents, Wed Nov 11 2026. No macro, syntax, notation, axiom, sorry.
-/
import Derived.Test.YtipjmmppplepjaaChecked
import GoSem.Claim
import GoSem.ClaimJoined
import GoSem.ClaimMapViews
import Derived.JoinedTies
import Derived.KernelRfl
namespace Go.Proofs.Ytipjmmppplepjaa
/- THE CELL 'sum', in the pinned program and in every row, IS THE sha256 OF THE DUMP (.gsa) THAT YtipjmmppplepjaaProg.lean LOADS. Nothing in Lean hashes anything: it is a label: what it is worth is what the hold of that sum in a sandbox is worth. -/
noncomputable def Try.pinned : Pinned := { name := "ytipjmmppplepjaa", sum := "d59fe9d66e9c23ace7ed999ad765f9d8f0a23d9c766ed10c2c18c04039d64a46", checked := Try.checked }
namespace Rows
def none {H : Type} : Left H := { results := [], args := [] }

/-- 'mapmakerlaw06.TagsChecks': WHATEVER THE INPUT: true; the input reads as it did. -/
def tagsChecksSpec : ChangeSpec := { name := "tagsChecks", fn := fun _ => fun
  | [d] => { results := [.lit (.bool true)], args := [d] }
  | _ => none }
def tagsChecksRow : OpenClaim := { program := "ytipjmmppplepjaa", sum := "d59fe9d66e9c23ace7ed999ad765f9d8f0a23d9c766ed10c2c18c04039d64a46", func := "mapmaker/mapmakerlaw06.TagsChecks", spec := "tagsChecks", unfollowed := true, recurses := true, apart := false }
def TagsChecksSaid : Prop := tagsChecksRow.holds Try.pinned (OpenSpec.ofChange tagsChecksSpec)

/-- ITS FALSE NEIGHBOUR: 'it returns false'. Refute it at one input. -/
def tagsChecksWrong : ChangeSpec := { name := "tagsChecks", fn := fun _ => fun
  | [d] => { results := [.lit (.bool false)], args := [d] }
  | _ => none }
def TagsChecksWrongFalsely : Prop := tagsChecksRow.holds Try.pinned (OpenSpec.ofChange tagsChecksWrong)

/-- 'mapmakerlaw06.TagsCanon': WHATEVER THE INPUT: true; the input reads as it did. -/
def tagsCanonSpec : ChangeSpec := { name := "tagsCanon", fn := fun _ => fun
  | [d] => { results := [.lit (.bool true)], args := [d] }
  | _ => none }
def tagsCanonRow : OpenClaim := { program := "ytipjmmppplepjaa", sum := "d59fe9d66e9c23ace7ed999ad765f9d8f0a23d9c766ed10c2c18c04039d64a46", func := "mapmaker/mapmakerlaw06.TagsCanon", spec := "tagsCanon", unfollowed := true, recurses := true, apart := false }
def TagsCanonSaid : Prop := tagsCanonRow.holds Try.pinned (OpenSpec.ofChange tagsCanonSpec)

/-- ITS FALSE NEIGHBOUR: 'it returns false'. Refute it at one input. -/
def tagsCanonWrong : ChangeSpec := { name := "tagsCanon", fn := fun _ => fun
  | [d] => { results := [.lit (.bool false)], args := [d] }
  | _ => none }
def TagsCanonWrongFalsely : Prop := tagsCanonRow.holds Try.pinned (OpenSpec.ofChange tagsCanonWrong)

/-- 'mapmakerlaw06.TagsLooks': WHATEVER THE INPUT: true; the input reads as it did. -/
def tagsLooksSpec : ChangeSpec := { name := "tagsLooks", fn := fun _ => fun
  | [d1, d2, d3] => { results := [.lit (.bool true)], args := [d1, d2, d3] }
  | _ => none }
def tagsLooksRow : OpenClaim := { program := "ytipjmmppplepjaa", sum := "d59fe9d66e9c23ace7ed999ad765f9d8f0a23d9c766ed10c2c18c04039d64a46", func := "mapmaker/mapmakerlaw06.TagsLooks", spec := "tagsLooks", unfollowed := true, recurses := true, apart := false }
def TagsLooksSaid : Prop := tagsLooksRow.holds Try.pinned (OpenSpec.ofChange tagsLooksSpec)

/-- ITS FALSE NEIGHBOUR: 'it returns false'. Refute it at one input. -/
def tagsLooksWrong : ChangeSpec := { name := "tagsLooks", fn := fun _ => fun
  | [d1, d2, d3] => { results := [.lit (.bool false)], args := [d1, d2, d3] }
  | _ => none }
def TagsLooksWrongFalsely : Prop := tagsLooksRow.holds Try.pinned (OpenSpec.ofChange tagsLooksWrong)

/-- 'mapmakerlaw06.TagsEdits': WHATEVER THE INPUT: true; the input reads as it did. -/
def tagsEditsSpec : ChangeSpec := { name := "tagsEdits", fn := fun _ => fun
  | [d1, d2, d3] => { results := [.lit (.bool true)], args := [d1, d2, d3] }
  | _ => none }
def tagsEditsRow : OpenClaim := { program := "ytipjmmppplepjaa", sum := "d59fe9d66e9c23ace7ed999ad765f9d8f0a23d9c766ed10c2c18c04039d64a46", func := "mapmaker/mapmakerlaw06.TagsEdits", spec := "tagsEdits", inPlace := ["slices.overlaps[mapmaker/api.Tag]"], unfollowed := true, recurses := true, apart := false }
def TagsEditsSaid : Prop := tagsEditsRow.holds Try.pinned (OpenSpec.ofChange tagsEditsSpec)

/-- ITS FALSE NEIGHBOUR: 'it returns false'. Refute it at one input. -/
def tagsEditsWrong : ChangeSpec := { name := "tagsEdits", fn := fun _ => fun
  | [d1, d2, d3] => { results := [.lit (.bool false)], args := [d1, d2, d3] }
  | _ => none }
def TagsEditsWrongFalsely : Prop := tagsEditsRow.holds Try.pinned (OpenSpec.ofChange tagsEditsWrong)

/-- 'mapmakerlaw06.TagsSets': WHATEVER THE INPUT: true; the input reads as it did. -/
def tagsSetsSpec : ChangeSpec := { name := "tagsSets", fn := fun _ => fun
  | [d1, d2, d3, d4] => { results := [.lit (.bool true)], args := [d1, d2, d3, d4] }
  | _ => none }
def tagsSetsRow : OpenClaim := { program := "ytipjmmppplepjaa", sum := "d59fe9d66e9c23ace7ed999ad765f9d8f0a23d9c766ed10c2c18c04039d64a46", func := "mapmaker/mapmakerlaw06.TagsSets", spec := "tagsSets", inPlace := ["slices.overlaps[mapmaker/api.Tag]"], unfollowed := true, recurses := true, apart := false }
def TagsSetsSaid : Prop := tagsSetsRow.holds Try.pinned (OpenSpec.ofChange tagsSetsSpec)

/-- ITS FALSE NEIGHBOUR: 'it returns false'. Refute it at one input. -/
def tagsSetsWrong : ChangeSpec := { name := "tagsSets", fn := fun _ => fun
  | [d1, d2, d3, d4] => { results := [.lit (.bool false)], args := [d1, d2, d3, d4] }
  | _ => none }
def TagsSetsWrongFalsely : Prop := tagsSetsRow.holds Try.pinned (OpenSpec.ofChange tagsSetsWrong)

/- THE SECOND FORM. 'bulk': how many values and letters a reading holds, each counted each time it is reached (what is shared counts as often as it is met; a slice's spare places count too). A statement '..UptoSaid' is the law's where the arguments, and the package variables that the reading takes, are together of bulk at most 1048576: NARROWER than '..Said'. Prove '..Said' where nothing that the law and all that it calls make is longer than what came in: it says more and counts as full. Else prove '..UptoSaid'. A law counts once. -/
mutual
def uptoBulk {H : Type} : DataW H → Nat
  | .lit (.string bytes) => bytes.length + 1
  | .lit _ => 1
  | .nil => 1
  | .ptr d => uptoBulk d + 1
  | .slice elems spare => uptoBulkAll elems + uptoBulkAll spare + 1
  | .agg parts => uptoBulkAll parts + 1
  | .iface _ d => uptoBulk d + 1
  | .map entries => uptoBulkEntries entries + 1
  | .held _ => 1
def uptoBulkAll {H : Type} : List (DataW H) → Nat
  | [] => 0
  | d :: r => uptoBulk d + uptoBulkAll r
def uptoBulkEntries {H : Type} : List (Lit × DataW H) → Nat
  | [] => 0
  | x :: r => uptoBulkEntry x + uptoBulkEntries r
def uptoBulkEntry {H : Type} : Lit × DataW H → Nat
  | (.string bytes, d) => bytes.length + uptoBulk d + 1
  | (_, d) => uptoBulk d + 1
 end
def uptoSmall : (H : Type) → List (DataW H) → Bool := fun _ ds => decide (uptoBulkAll ds ≤ 1048576)
def OpenSpec.upto (s : _root_.Go.ChangeSpec) : _root_.Go.OpenSpec := { _root_.Go.OpenSpec.ofChange s with cond := some uptoSmall }

/-- 'mapmakerlaw06.TagsChecks', WHERE WHAT IT READS IS OF BULK AT MOST 1048576: true; the input reads as it did. -/
def tagsChecksUptoRow : OpenClaim := { program := "ytipjmmppplepjaa", sum := "d59fe9d66e9c23ace7ed999ad765f9d8f0a23d9c766ed10c2c18c04039d64a46", func := "mapmaker/mapmakerlaw06.TagsChecks", spec := "tagsChecks", unfollowed := true, recurses := true, apart := false, narrowed := true }
def TagsChecksUptoSaid : Prop := tagsChecksUptoRow.holds Try.pinned (OpenSpec.upto tagsChecksSpec)

/-- 'mapmakerlaw06.TagsCanon', WHERE WHAT IT READS IS OF BULK AT MOST 1048576: true; the input reads as it did. -/
def tagsCanonUptoRow : OpenClaim := { program := "ytipjmmppplepjaa", sum := "d59fe9d66e9c23ace7ed999ad765f9d8f0a23d9c766ed10c2c18c04039d64a46", func := "mapmaker/mapmakerlaw06.TagsCanon", spec := "tagsCanon", unfollowed := true, recurses := true, apart := false, narrowed := true }
def TagsCanonUptoSaid : Prop := tagsCanonUptoRow.holds Try.pinned (OpenSpec.upto tagsCanonSpec)

/-- 'mapmakerlaw06.TagsLooks', WHERE WHAT IT READS IS OF BULK AT MOST 1048576: true; the input reads as it did. -/
def tagsLooksUptoRow : OpenClaim := { program := "ytipjmmppplepjaa", sum := "d59fe9d66e9c23ace7ed999ad765f9d8f0a23d9c766ed10c2c18c04039d64a46", func := "mapmaker/mapmakerlaw06.TagsLooks", spec := "tagsLooks", unfollowed := true, recurses := true, apart := false, narrowed := true }
def TagsLooksUptoSaid : Prop := tagsLooksUptoRow.holds Try.pinned (OpenSpec.upto tagsLooksSpec)

/-- 'mapmakerlaw06.TagsEdits', WHERE WHAT IT READS IS OF BULK AT MOST 1048576: true; the input reads as it did. -/
def tagsEditsUptoRow : OpenClaim := { program := "ytipjmmppplepjaa", sum := "d59fe9d66e9c23ace7ed999ad765f9d8f0a23d9c766ed10c2c18c04039d64a46", func := "mapmaker/mapmakerlaw06.TagsEdits", spec := "tagsEdits", inPlace := ["slices.overlaps[mapmaker/api.Tag]"], unfollowed := true, recurses := true, apart := false, narrowed := true }
def TagsEditsUptoSaid : Prop := tagsEditsUptoRow.holds Try.pinned (OpenSpec.upto tagsEditsSpec)

/-- 'mapmakerlaw06.TagsSets', WHERE WHAT IT READS IS OF BULK AT MOST 1048576: true; the input reads as it did. -/
def tagsSetsUptoRow : OpenClaim := { program := "ytipjmmppplepjaa", sum := "d59fe9d66e9c23ace7ed999ad765f9d8f0a23d9c766ed10c2c18c04039d64a46", func := "mapmaker/mapmakerlaw06.TagsSets", spec := "tagsSets", inPlace := ["slices.overlaps[mapmaker/api.Tag]"], unfollowed := true, recurses := true, apart := false, narrowed := true }
def TagsSetsUptoSaid : Prop := tagsSetsUptoRow.holds Try.pinned (OpenSpec.upto tagsSetsSpec)

end Rows
end Go.Proofs.Ytipjmmppplepjaa
