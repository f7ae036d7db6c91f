/-
  No cell of these rows narrows 'for every input' (looked for: loops, veiled, ifaces, maps, wideKeys, modest, calm, conditions, laid).
  DERIVED. THE GIVEN ROWS OF THIS SEAT. 4 by the template 'for every input the law returns true; each argument reads behind the call as it read before'; 0 by the template 'total and deterministic' (their statements: YtnjkjafhmgcpnaaTotals.lean).
  GIVEN WITH THE SEED: the statements are not yours to turn. If you find one false, say at which input.
  Laid BY PROGRAM, IN A SANDBOX (cutbox-rows.mjs): the forced cells as the released guide's own fill.sh prints them over the translation 2910376cb11bcc00… (all of the seat's roots in one cut). By AI agents, Wed Nov 11 2026. No macro, syntax, notation, axiom, sorry.
-/
import Derived.Test.YtnjkjafhmgcpnaaChecked
import GoSem.Claim
import GoSem.ClaimJoined
import GoSem.ClaimMapViews
import Derived.JoinedTies
import Derived.KernelRfl
namespace Go.Proofs.Ytnjkjafhmgcpnaa
/- THE CELL 'sum', in the pinned program and in every row, IS THE sha256 OF THE DUMP (.gsa) THAT YtnjkjafhmgcpnaaProg.lean LOADS. Nothing in Lean hashes anything: it is a label: what it is worth is what the hold of that sum in a sandbox is worth. -/
noncomputable def Try.pinned : Pinned := { name := "ytnjkjafhmgcpnaa", sum := "2910376cb11bcc00a369b566f0845fe0022a8a9de510d5180b164920cb6577aa", checked := Try.checked }
namespace Rows
def none {H : Type} : Left H := { results := [], args := [] }

/-- 'mapmakerlaw13.HullCorners': WHATEVER THE INPUT: true; the input reads as it did. -/
def hullCornersSpec : ChangeSpec := { name := "hullCorners", fn := fun _ => fun
  | [d] => { results := [.lit (.bool true)], args := [d] }
  | _ => none }
def hullCornersRow : OpenClaim := { program := "ytnjkjafhmgcpnaa", sum := "2910376cb11bcc00a369b566f0845fe0022a8a9de510d5180b164920cb6577aa", func := "mapmaker/mapmakerlaw13.HullCorners", spec := "hullCorners", unfollowed := true, recurses := true, apart := false }
def HullCornersSaid : Prop := hullCornersRow.holds Try.pinned (OpenSpec.ofChange hullCornersSpec)

/-- ITS FALSE NEIGHBOUR: 'it returns false'. Refute it at one input. -/
def hullCornersWrong : ChangeSpec := { name := "hullCorners", fn := fun _ => fun
  | [d] => { results := [.lit (.bool false)], args := [d] }
  | _ => none }
def HullCornersWrongFalsely : Prop := hullCornersRow.holds Try.pinned (OpenSpec.ofChange hullCornersWrong)

/-- 'mapmakerlaw13.HullHolds': WHATEVER THE INPUT: true; the input reads as it did. -/
def hullHoldsSpec : ChangeSpec := { name := "hullHolds", fn := fun _ => fun
  | [d1, d2] => { results := [.lit (.bool true)], args := [d1, d2] }
  | _ => none }
def hullHoldsRow : OpenClaim := { program := "ytnjkjafhmgcpnaa", sum := "2910376cb11bcc00a369b566f0845fe0022a8a9de510d5180b164920cb6577aa", func := "mapmaker/mapmakerlaw13.HullHolds", spec := "hullHolds", unfollowed := true, recurses := true, apart := false }
def HullHoldsSaid : Prop := hullHoldsRow.holds Try.pinned (OpenSpec.ofChange hullHoldsSpec)

/-- ITS FALSE NEIGHBOUR: 'it returns false'. Refute it at one input. -/
def hullHoldsWrong : ChangeSpec := { name := "hullHolds", fn := fun _ => fun
  | [d1, d2] => { results := [.lit (.bool false)], args := [d1, d2] }
  | _ => none }
def HullHoldsWrongFalsely : Prop := hullHoldsRow.holds Try.pinned (OpenSpec.ofChange hullHoldsWrong)

/-- 'mapmakerlaw13.HullContains': WHATEVER THE INPUT: true; the input reads as it did. -/
def hullContainsSpec : ChangeSpec := { name := "hullContains", fn := fun _ => fun
  | [d] => { results := [.lit (.bool true)], args := [d] }
  | _ => none }
def hullContainsRow : OpenClaim := { program := "ytnjkjafhmgcpnaa", sum := "2910376cb11bcc00a369b566f0845fe0022a8a9de510d5180b164920cb6577aa", func := "mapmaker/mapmakerlaw13.HullContains", spec := "hullContains", unfollowed := true, recurses := true, apart := false }
def HullContainsSaid : Prop := hullContainsRow.holds Try.pinned (OpenSpec.ofChange hullContainsSpec)

/-- ITS FALSE NEIGHBOUR: 'it returns false'. Refute it at one input. -/
def hullContainsWrong : ChangeSpec := { name := "hullContains", fn := fun _ => fun
  | [d] => { results := [.lit (.bool false)], args := [d] }
  | _ => none }
def HullContainsWrongFalsely : Prop := hullContainsRow.holds Try.pinned (OpenSpec.ofChange hullContainsWrong)

/-- 'mapmakerlaw13.HullOrders': WHATEVER THE INPUT: true; the input reads as it did. -/
def hullOrdersSpec : ChangeSpec := { name := "hullOrders", fn := fun _ => fun
  | [d1, d2] => { results := [.lit (.bool true)], args := [d1, d2] }
  | _ => none }
def hullOrdersRow : OpenClaim := { program := "ytnjkjafhmgcpnaa", sum := "2910376cb11bcc00a369b566f0845fe0022a8a9de510d5180b164920cb6577aa", func := "mapmaker/mapmakerlaw13.HullOrders", spec := "hullOrders", unfollowed := true, recurses := true, apart := false }
def HullOrdersSaid : Prop := hullOrdersRow.holds Try.pinned (OpenSpec.ofChange hullOrdersSpec)

/-- ITS FALSE NEIGHBOUR: 'it returns false'. Refute it at one input. -/
def hullOrdersWrong : ChangeSpec := { name := "hullOrders", fn := fun _ => fun
  | [d1, d2] => { results := [.lit (.bool false)], args := [d1, d2] }
  | _ => none }
def HullOrdersWrongFalsely : Prop := hullOrdersRow.holds Try.pinned (OpenSpec.ofChange hullOrdersWrong)

/- THE SECOND FORM. 'bulk': how many values and letters a reading holds, each counted each time it is reached (what is shared counts as often as it is met; a slice's spare places count too). A statement '..UptoSaid' is the law's where the arguments, and the package variables that the reading takes, are together of bulk at most 1048576: NARROWER than '..Said'. Prove '..Said' where nothing that the law and all that it calls make is longer than what came in: it says more and counts as full. Else prove '..UptoSaid'. A law counts once. -/
mutual
def uptoBulk {H : Type} : DataW H → Nat
  | .lit (.string bytes) => bytes.length + 1
  | .lit _ => 1
  | .nil => 1
  | .ptr d => uptoBulk d + 1
  | .slice elems spare => uptoBulkAll elems + uptoBulkAll spare + 1
  | .agg parts => uptoBulkAll parts + 1
  | .iface _ d => uptoBulk d + 1
  | .map entries => uptoBulkEntries entries + 1
  | .held _ => 1
def uptoBulkAll {H : Type} : List (DataW H) → Nat
  | [] => 0
  | d :: r => uptoBulk d + uptoBulkAll r
def uptoBulkEntries {H : Type} : List (Lit × DataW H) → Nat
  | [] => 0
  | x :: r => uptoBulkEntry x + uptoBulkEntries r
def uptoBulkEntry {H : Type} : Lit × DataW H → Nat
  | (.string bytes, d) => bytes.length + uptoBulk d + 1
  | (_, d) => uptoBulk d + 1
 end
def uptoSmall : (H : Type) → List (DataW H) → Bool := fun _ ds => decide (uptoBulkAll ds ≤ 1048576)
def OpenSpec.upto (s : _root_.Go.ChangeSpec) : _root_.Go.OpenSpec := { _root_.Go.OpenSpec.ofChange s with cond := some uptoSmall }

/-- 'mapmakerlaw13.HullCorners', WHERE WHAT IT READS IS OF BULK AT MOST 1048576: true; the input reads as it did. -/
def hullCornersUptoRow : OpenClaim := { program := "ytnjkjafhmgcpnaa", sum := "2910376cb11bcc00a369b566f0845fe0022a8a9de510d5180b164920cb6577aa", func := "mapmaker/mapmakerlaw13.HullCorners", spec := "hullCorners", unfollowed := true, recurses := true, apart := false, narrowed := true }
def HullCornersUptoSaid : Prop := hullCornersUptoRow.holds Try.pinned (OpenSpec.upto hullCornersSpec)

/-- 'mapmakerlaw13.HullHolds', WHERE WHAT IT READS IS OF BULK AT MOST 1048576: true; the input reads as it did. -/
def hullHoldsUptoRow : OpenClaim := { program := "ytnjkjafhmgcpnaa", sum := "2910376cb11bcc00a369b566f0845fe0022a8a9de510d5180b164920cb6577aa", func := "mapmaker/mapmakerlaw13.HullHolds", spec := "hullHolds", unfollowed := true, recurses := true, apart := false, narrowed := true }
def HullHoldsUptoSaid : Prop := hullHoldsUptoRow.holds Try.pinned (OpenSpec.upto hullHoldsSpec)

/-- 'mapmakerlaw13.HullContains', WHERE WHAT IT READS IS OF BULK AT MOST 1048576: true; the input reads as it did. -/
def hullContainsUptoRow : OpenClaim := { program := "ytnjkjafhmgcpnaa", sum := "2910376cb11bcc00a369b566f0845fe0022a8a9de510d5180b164920cb6577aa", func := "mapmaker/mapmakerlaw13.HullContains", spec := "hullContains", unfollowed := true, recurses := true, apart := false, narrowed := true }
def HullContainsUptoSaid : Prop := hullContainsUptoRow.holds Try.pinned (OpenSpec.upto hullContainsSpec)

/-- 'mapmakerlaw13.HullOrders', WHERE WHAT IT READS IS OF BULK AT MOST 1048576: true; the input reads as it did. -/
def hullOrdersUptoRow : OpenClaim := { program := "ytnjkjafhmgcpnaa", sum := "2910376cb11bcc00a369b566f0845fe0022a8a9de510d5180b164920cb6577aa", func := "mapmaker/mapmakerlaw13.HullOrders", spec := "hullOrders", unfollowed := true, recurses := true, apart := false, narrowed := true }
def HullOrdersUptoSaid : Prop := hullOrdersUptoRow.holds Try.pinned (OpenSpec.upto hullOrdersSpec)

end Rows
end Go.Proofs.Ytnjkjafhmgcpnaa
