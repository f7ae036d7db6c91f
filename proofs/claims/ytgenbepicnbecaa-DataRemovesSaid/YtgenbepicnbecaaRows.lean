/-
  No cell of these rows narrows 'for every input' (looked for: loops, veiled, ifaces, maps, wideKeys, modest, calm, conditions, laid).
  DERIVED. THE GIVEN ROWS OF THIS SEAT. 5 by the template 'for every input the law returns true; each argument reads behind the call as it read before'; 0 by the template 'total and deterministic' (their statements: YtgenbepicnbecaaTotals.lean).
  GIVEN WITH THE SEED: the statements are not yours to turn. If you find one false, say at which input.
  Laid BY PROGRAM, IN A SANDBOX (cutbox-rows.mjs): the forced cells as the released guide's own fill.sh prints them over the translation 9f03c642c9ecd280… (all of the seat's roots in one cut). By AI agents, Wed Nov 11 2026. No macro, syntax, notation, axiom, sorry.
-/
import Derived.Test.YtgenbepicnbecaaChecked
import GoSem.Claim
import GoSem.ClaimJoined
import GoSem.ClaimMapViews
import Derived.JoinedTies
import Derived.KernelRfl
namespace Go.Proofs.Ytgenbepicnbecaa
/- THE CELL 'sum', in the pinned program and in every row, IS THE sha256 OF THE DUMP (.gsa) THAT YtgenbepicnbecaaProg.lean LOADS. Nothing in Lean hashes anything: it is a label: what it is worth is what the hold of that sum in a sandbox is worth. -/
noncomputable def Try.pinned : Pinned := { name := "ytgenbepicnbecaa", sum := "9f03c642c9ecd280ed9c06201234c89c3bb3eeeabc39ffc4922f467d844de379", checked := Try.checked }
namespace Rows
def none {H : Type} : Left H := { results := [], args := [] }

/-- 'mapmakerlaw14.DataChecks': WHATEVER THE INPUT: true; the input reads as it did. -/
def dataChecksSpec : ChangeSpec := { name := "dataChecks", fn := fun _ => fun
  | [d] => { results := [.lit (.bool true)], args := [d] }
  | _ => none }
def dataChecksRow : OpenClaim := { program := "ytgenbepicnbecaa", sum := "9f03c642c9ecd280ed9c06201234c89c3bb3eeeabc39ffc4922f467d844de379", func := "mapmaker/mapmakerlaw14.DataChecks", spec := "dataChecks", unfollowed := true, recurses := true, apart := false }
def DataChecksSaid : Prop := dataChecksRow.holds Try.pinned (OpenSpec.ofChange dataChecksSpec)

/-- ITS FALSE NEIGHBOUR: 'it returns false'. Refute it at one input. -/
def dataChecksWrong : ChangeSpec := { name := "dataChecks", fn := fun _ => fun
  | [d] => { results := [.lit (.bool false)], args := [d] }
  | _ => none }
def DataChecksWrongFalsely : Prop := dataChecksRow.holds Try.pinned (OpenSpec.ofChange dataChecksWrong)

/-- 'mapmakerlaw14.DataFinds': WHATEVER THE INPUT: true; the input reads as it did. -/
def dataFindsSpec : ChangeSpec := { name := "dataFinds", fn := fun _ => fun
  | [d1, d2] => { results := [.lit (.bool true)], args := [d1, d2] }
  | _ => none }
def dataFindsRow : OpenClaim := { program := "ytgenbepicnbecaa", sum := "9f03c642c9ecd280ed9c06201234c89c3bb3eeeabc39ffc4922f467d844de379", func := "mapmaker/mapmakerlaw14.DataFinds", spec := "dataFinds", unfollowed := true, recurses := true, apart := false }
def DataFindsSaid : Prop := dataFindsRow.holds Try.pinned (OpenSpec.ofChange dataFindsSpec)

/-- ITS FALSE NEIGHBOUR: 'it returns false'. Refute it at one input. -/
def dataFindsWrong : ChangeSpec := { name := "dataFinds", fn := fun _ => fun
  | [d1, d2] => { results := [.lit (.bool false)], args := [d1, d2] }
  | _ => none }
def DataFindsWrongFalsely : Prop := dataFindsRow.holds Try.pinned (OpenSpec.ofChange dataFindsWrong)

/-- 'mapmakerlaw14.DataSame': WHATEVER THE INPUT: true; the input reads as it did. -/
def dataSameSpec : ChangeSpec := { name := "dataSame", fn := fun _ => fun
  | [d1, d2] => { results := [.lit (.bool true)], args := [d1, d2] }
  | _ => none }
def dataSameRow : OpenClaim := { program := "ytgenbepicnbecaa", sum := "9f03c642c9ecd280ed9c06201234c89c3bb3eeeabc39ffc4922f467d844de379", func := "mapmaker/mapmakerlaw14.DataSame", spec := "dataSame", unfollowed := true, recurses := true, apart := false }
def DataSameSaid : Prop := dataSameRow.holds Try.pinned (OpenSpec.ofChange dataSameSpec)

/-- ITS FALSE NEIGHBOUR: 'it returns false'. Refute it at one input. -/
def dataSameWrong : ChangeSpec := { name := "dataSame", fn := fun _ => fun
  | [d1, d2] => { results := [.lit (.bool false)], args := [d1, d2] }
  | _ => none }
def DataSameWrongFalsely : Prop := dataSameRow.holds Try.pinned (OpenSpec.ofChange dataSameWrong)

/-- 'mapmakerlaw14.DataRemoves': WHATEVER THE INPUT: true; the input reads as it did. -/
def dataRemovesSpec : ChangeSpec := { name := "dataRemoves", fn := fun _ => fun
  | [d1, d2] => { results := [.lit (.bool true)], args := [d1, d2] }
  | _ => none }
def dataRemovesRow : OpenClaim := { program := "ytgenbepicnbecaa", sum := "9f03c642c9ecd280ed9c06201234c89c3bb3eeeabc39ffc4922f467d844de379", func := "mapmaker/mapmakerlaw14.DataRemoves", spec := "dataRemoves", unfollowed := true, recurses := true, apart := false }
def DataRemovesSaid : Prop := dataRemovesRow.holds Try.pinned (OpenSpec.ofChange dataRemovesSpec)

/-- ITS FALSE NEIGHBOUR: 'it returns false'. Refute it at one input. -/
def dataRemovesWrong : ChangeSpec := { name := "dataRemoves", fn := fun _ => fun
  | [d1, d2] => { results := [.lit (.bool false)], args := [d1, d2] }
  | _ => none }
def DataRemovesWrongFalsely : Prop := dataRemovesRow.holds Try.pinned (OpenSpec.ofChange dataRemovesWrong)

/-- 'mapmakerlaw14.DataUsers': WHATEVER THE INPUT: true; the input reads as it did. -/
def dataUsersSpec : ChangeSpec := { name := "dataUsers", fn := fun _ => fun
  | [d] => { results := [.lit (.bool true)], args := [d] }
  | _ => none }
def dataUsersRow : OpenClaim := { program := "ytgenbepicnbecaa", sum := "9f03c642c9ecd280ed9c06201234c89c3bb3eeeabc39ffc4922f467d844de379", func := "mapmaker/mapmakerlaw14.DataUsers", spec := "dataUsers", unfollowed := true, recurses := true, apart := false }
def DataUsersSaid : Prop := dataUsersRow.holds Try.pinned (OpenSpec.ofChange dataUsersSpec)

/-- ITS FALSE NEIGHBOUR: 'it returns false'. Refute it at one input. -/
def dataUsersWrong : ChangeSpec := { name := "dataUsers", fn := fun _ => fun
  | [d] => { results := [.lit (.bool false)], args := [d] }
  | _ => none }
def DataUsersWrongFalsely : Prop := dataUsersRow.holds Try.pinned (OpenSpec.ofChange dataUsersWrong)

/- THE SECOND FORM. 'bulk': how many values and letters a reading holds, each counted each time it is reached (what is shared counts as often as it is met; a slice's spare places count too). A statement '..UptoSaid' is the law's where the arguments, and the package variables that the reading takes, are together of bulk at most 1048576: NARROWER than '..Said'. Prove '..Said' where nothing that the law and all that it calls make is longer than what came in: it says more and counts as full. Else prove '..UptoSaid'. A law counts once. -/
mutual
def uptoBulk {H : Type} : DataW H → Nat
  | .lit (.string bytes) => bytes.length + 1
  | .lit _ => 1
  | .nil => 1
  | .ptr d => uptoBulk d + 1
  | .slice elems spare => uptoBulkAll elems + uptoBulkAll spare + 1
  | .agg parts => uptoBulkAll parts + 1
  | .iface _ d => uptoBulk d + 1
  | .map entries => uptoBulkEntries entries + 1
  | .held _ => 1
def uptoBulkAll {H : Type} : List (DataW H) → Nat
  | [] => 0
  | d :: r => uptoBulk d + uptoBulkAll r
def uptoBulkEntries {H : Type} : List (Lit × DataW H) → Nat
  | [] => 0
  | x :: r => uptoBulkEntry x + uptoBulkEntries r
def uptoBulkEntry {H : Type} : Lit × DataW H → Nat
  | (.string bytes, d) => bytes.length + uptoBulk d + 1
  | (_, d) => uptoBulk d + 1
 end
def uptoSmall : (H : Type) → List (DataW H) → Bool := fun _ ds => decide (uptoBulkAll ds ≤ 1048576)
def OpenSpec.upto (s : _root_.Go.ChangeSpec) : _root_.Go.OpenSpec := { _root_.Go.OpenSpec.ofChange s with cond := some uptoSmall }

/-- 'mapmakerlaw14.DataChecks', WHERE WHAT IT READS IS OF BULK AT MOST 1048576: true; the input reads as it did. -/
def dataChecksUptoRow : OpenClaim := { program := "ytgenbepicnbecaa", sum := "9f03c642c9ecd280ed9c06201234c89c3bb3eeeabc39ffc4922f467d844de379", func := "mapmaker/mapmakerlaw14.DataChecks", spec := "dataChecks", unfollowed := true, recurses := true, apart := false, narrowed := true }
def DataChecksUptoSaid : Prop := dataChecksUptoRow.holds Try.pinned (OpenSpec.upto dataChecksSpec)

/-- 'mapmakerlaw14.DataFinds', WHERE WHAT IT READS IS OF BULK AT MOST 1048576: true; the input reads as it did. -/
def dataFindsUptoRow : OpenClaim := { program := "ytgenbepicnbecaa", sum := "9f03c642c9ecd280ed9c06201234c89c3bb3eeeabc39ffc4922f467d844de379", func := "mapmaker/mapmakerlaw14.DataFinds", spec := "dataFinds", unfollowed := true, recurses := true, apart := false, narrowed := true }
def DataFindsUptoSaid : Prop := dataFindsUptoRow.holds Try.pinned (OpenSpec.upto dataFindsSpec)

/-- 'mapmakerlaw14.DataSame', WHERE WHAT IT READS IS OF BULK AT MOST 1048576: true; the input reads as it did. -/
def dataSameUptoRow : OpenClaim := { program := "ytgenbepicnbecaa", sum := "9f03c642c9ecd280ed9c06201234c89c3bb3eeeabc39ffc4922f467d844de379", func := "mapmaker/mapmakerlaw14.DataSame", spec := "dataSame", unfollowed := true, recurses := true, apart := false, narrowed := true }
def DataSameUptoSaid : Prop := dataSameUptoRow.holds Try.pinned (OpenSpec.upto dataSameSpec)

/-- 'mapmakerlaw14.DataRemoves', WHERE WHAT IT READS IS OF BULK AT MOST 1048576: true; the input reads as it did. -/
def dataRemovesUptoRow : OpenClaim := { program := "ytgenbepicnbecaa", sum := "9f03c642c9ecd280ed9c06201234c89c3bb3eeeabc39ffc4922f467d844de379", func := "mapmaker/mapmakerlaw14.DataRemoves", spec := "dataRemoves", unfollowed := true, recurses := true, apart := false, narrowed := true }
def DataRemovesUptoSaid : Prop := dataRemovesUptoRow.holds Try.pinned (OpenSpec.upto dataRemovesSpec)

/-- 'mapmakerlaw14.DataUsers', WHERE WHAT IT READS IS OF BULK AT MOST 1048576: true; the input reads as it did. -/
def dataUsersUptoRow : OpenClaim := { program := "ytgenbepicnbecaa", sum := "9f03c642c9ecd280ed9c06201234c89c3bb3eeeabc39ffc4922f467d844de379", func := "mapmaker/mapmakerlaw14.DataUsers", spec := "dataUsers", unfollowed := true, recurses := true, apart := false, narrowed := true }
def DataUsersUptoSaid : Prop := dataUsersUptoRow.holds Try.pinned (OpenSpec.upto dataUsersSpec)

end Rows
end Go.Proofs.Ytgenbepicnbecaa
