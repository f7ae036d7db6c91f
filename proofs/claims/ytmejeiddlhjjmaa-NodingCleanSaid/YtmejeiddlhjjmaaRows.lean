/-
  No cell of these rows narrows 'for every input' (looked for: loops, veiled, ifaces, maps, wideKeys, modest, calm, conditions, laid).
  DERIVED. THE GIVEN ROWS OF THIS SEAT. 5 by the template 'for every input the law returns true; each argument reads behind the call as it read before'; 0 by the template 'total and deterministic' (their statements: YtmejeiddlhjjmaaTotals.lean).
  GIVEN WITH THE SEED: the statements are not yours to turn. If you find one false, say at which input.
  Laid BY PROGRAM, IN A SANDBOX (cutbox-rows.mjs): the forced cells as the released guide's own fill.sh prints them over the translation 657eb20a53052006… (all of the seat's roots in one cut). By AI agents, Wed Nov 11 2026. No macro, syntax, notation, axiom, sorry.
-/
import Derived.Test.YtmejeiddlhjjmaaChecked
import GoSem.Claim
import GoSem.ClaimJoined
import GoSem.ClaimMapViews
import Derived.JoinedTies
import Derived.KernelRfl
namespace Go.Proofs.Ytmejeiddlhjjmaa
/- THE CELL 'sum', in the pinned program and in every row, IS THE sha256 OF THE DUMP (.gsa) THAT YtmejeiddlhjjmaaProg.lean LOADS. Nothing in Lean hashes anything: it is a label: what it is worth is what the hold of that sum in a sandbox is worth. -/
noncomputable def Try.pinned : Pinned := { name := "ytmejeiddlhjjmaa", sum := "657eb20a53052006986d9eee4feec5575ac4530a4cdd63bbb4f3fae747d25b35", checked := Try.checked }
namespace Rows
def none {H : Type} : Left H := { results := [], args := [] }

/-- 'mapmakerlaw20.NodingSorts': WHATEVER THE INPUT: true; the input reads as it did. -/
def nodingSortsSpec : ChangeSpec := { name := "nodingSorts", fn := fun _ => fun
  | [d1, d2] => { results := [.lit (.bool true)], args := [d1, d2] }
  | _ => none }
def nodingSortsRow : OpenClaim := { program := "ytmejeiddlhjjmaa", sum := "657eb20a53052006986d9eee4feec5575ac4530a4cdd63bbb4f3fae747d25b35", func := "mapmaker/mapmakerlaw20.NodingSorts", spec := "nodingSorts", unfollowed := true, recurses := true, plainKeys := false, apart := false }
def NodingSortsSaid : Prop := nodingSortsRow.holds Try.pinned (OpenSpec.ofChange nodingSortsSpec)

/-- ITS FALSE NEIGHBOUR: 'it returns false'. Refute it at one input. -/
def nodingSortsWrong : ChangeSpec := { name := "nodingSorts", fn := fun _ => fun
  | [d1, d2] => { results := [.lit (.bool false)], args := [d1, d2] }
  | _ => none }
def NodingSortsWrongFalsely : Prop := nodingSortsRow.holds Try.pinned (OpenSpec.ofChange nodingSortsWrong)

/-- 'mapmakerlaw20.NodingSplits': WHATEVER THE INPUT: true; the input reads as it did. -/
def nodingSplitsSpec : ChangeSpec := { name := "nodingSplits", fn := fun _ => fun
  | [d] => { results := [.lit (.bool true)], args := [d] }
  | _ => none }
def nodingSplitsRow : OpenClaim := { program := "ytmejeiddlhjjmaa", sum := "657eb20a53052006986d9eee4feec5575ac4530a4cdd63bbb4f3fae747d25b35", func := "mapmaker/mapmakerlaw20.NodingSplits", spec := "nodingSplits", unfollowed := true, recurses := true, plainKeys := false, apart := false }
def NodingSplitsSaid : Prop := nodingSplitsRow.holds Try.pinned (OpenSpec.ofChange nodingSplitsSpec)

/-- ITS FALSE NEIGHBOUR: 'it returns false'. Refute it at one input. -/
def nodingSplitsWrong : ChangeSpec := { name := "nodingSplits", fn := fun _ => fun
  | [d] => { results := [.lit (.bool false)], args := [d] }
  | _ => none }
def NodingSplitsWrongFalsely : Prop := nodingSplitsRow.holds Try.pinned (OpenSpec.ofChange nodingSplitsWrong)

/-- 'mapmakerlaw20.NodingCrosses': WHATEVER THE INPUT: true; the input reads as it did. -/
def nodingCrossesSpec : ChangeSpec := { name := "nodingCrosses", fn := fun _ => fun
  | [d] => { results := [.lit (.bool true)], args := [d] }
  | _ => none }
def nodingCrossesRow : OpenClaim := { program := "ytmejeiddlhjjmaa", sum := "657eb20a53052006986d9eee4feec5575ac4530a4cdd63bbb4f3fae747d25b35", func := "mapmaker/mapmakerlaw20.NodingCrosses", spec := "nodingCrosses", unfollowed := true, recurses := true, plainKeys := false, apart := false }
def NodingCrossesSaid : Prop := nodingCrossesRow.holds Try.pinned (OpenSpec.ofChange nodingCrossesSpec)

/-- ITS FALSE NEIGHBOUR: 'it returns false'. Refute it at one input. -/
def nodingCrossesWrong : ChangeSpec := { name := "nodingCrosses", fn := fun _ => fun
  | [d] => { results := [.lit (.bool false)], args := [d] }
  | _ => none }
def NodingCrossesWrongFalsely : Prop := nodingCrossesRow.holds Try.pinned (OpenSpec.ofChange nodingCrossesWrong)

/-- 'mapmakerlaw20.NodingIdempotent': WHATEVER THE INPUT: true; the input reads as it did. -/
def nodingIdempotentSpec : ChangeSpec := { name := "nodingIdempotent", fn := fun _ => fun
  | [d] => { results := [.lit (.bool true)], args := [d] }
  | _ => none }
def nodingIdempotentRow : OpenClaim := { program := "ytmejeiddlhjjmaa", sum := "657eb20a53052006986d9eee4feec5575ac4530a4cdd63bbb4f3fae747d25b35", func := "mapmaker/mapmakerlaw20.NodingIdempotent", spec := "nodingIdempotent", unfollowed := true, recurses := true, plainKeys := false, apart := false }
def NodingIdempotentSaid : Prop := nodingIdempotentRow.holds Try.pinned (OpenSpec.ofChange nodingIdempotentSpec)

/-- ITS FALSE NEIGHBOUR: 'it returns false'. Refute it at one input. -/
def nodingIdempotentWrong : ChangeSpec := { name := "nodingIdempotent", fn := fun _ => fun
  | [d] => { results := [.lit (.bool false)], args := [d] }
  | _ => none }
def NodingIdempotentWrongFalsely : Prop := nodingIdempotentRow.holds Try.pinned (OpenSpec.ofChange nodingIdempotentWrong)

/-- 'mapmakerlaw20.NodingClean': WHATEVER THE INPUT: true; the input reads as it did. -/
def nodingCleanSpec : ChangeSpec := { name := "nodingClean", fn := fun _ => fun
  | [d] => { results := [.lit (.bool true)], args := [d] }
  | _ => none }
def nodingCleanRow : OpenClaim := { program := "ytmejeiddlhjjmaa", sum := "657eb20a53052006986d9eee4feec5575ac4530a4cdd63bbb4f3fae747d25b35", func := "mapmaker/mapmakerlaw20.NodingClean", spec := "nodingClean", unfollowed := true, recurses := true, plainKeys := false, apart := false }
def NodingCleanSaid : Prop := nodingCleanRow.holds Try.pinned (OpenSpec.ofChange nodingCleanSpec)

/-- ITS FALSE NEIGHBOUR: 'it returns false'. Refute it at one input. -/
def nodingCleanWrong : ChangeSpec := { name := "nodingClean", fn := fun _ => fun
  | [d] => { results := [.lit (.bool false)], args := [d] }
  | _ => none }
def NodingCleanWrongFalsely : Prop := nodingCleanRow.holds Try.pinned (OpenSpec.ofChange nodingCleanWrong)

/- THE SECOND FORM. 'bulk': how many values and letters a reading holds, each counted each time it is reached (what is shared counts as often as it is met; a slice's spare places count too). A statement '..UptoSaid' is the law's where the arguments, and the package variables that the reading takes, are together of bulk at most 1048576: NARROWER than '..Said'. Prove '..Said' where nothing that the law and all that it calls make is longer than what came in: it says more and counts as full. Else prove '..UptoSaid'. A law counts once. -/
mutual
def uptoBulk {H : Type} : DataW H → Nat
  | .lit (.string bytes) => bytes.length + 1
  | .lit _ => 1
  | .nil => 1
  | .ptr d => uptoBulk d + 1
  | .slice elems spare => uptoBulkAll elems + uptoBulkAll spare + 1
  | .agg parts => uptoBulkAll parts + 1
  | .iface _ d => uptoBulk d + 1
  | .map entries => uptoBulkEntries entries + 1
  | .held _ => 1
def uptoBulkAll {H : Type} : List (DataW H) → Nat
  | [] => 0
  | d :: r => uptoBulk d + uptoBulkAll r
def uptoBulkEntries {H : Type} : List (Lit × DataW H) → Nat
  | [] => 0
  | x :: r => uptoBulkEntry x + uptoBulkEntries r
def uptoBulkEntry {H : Type} : Lit × DataW H → Nat
  | (.string bytes, d) => bytes.length + uptoBulk d + 1
  | (_, d) => uptoBulk d + 1
 end
def uptoSmall : (H : Type) → List (DataW H) → Bool := fun _ ds => decide (uptoBulkAll ds ≤ 1048576)
def OpenSpec.upto (s : _root_.Go.ChangeSpec) : _root_.Go.OpenSpec := { _root_.Go.OpenSpec.ofChange s with cond := some uptoSmall }

/-- 'mapmakerlaw20.NodingSorts', WHERE WHAT IT READS IS OF BULK AT MOST 1048576: true; the input reads as it did. -/
def nodingSortsUptoRow : OpenClaim := { program := "ytmejeiddlhjjmaa", sum := "657eb20a53052006986d9eee4feec5575ac4530a4cdd63bbb4f3fae747d25b35", func := "mapmaker/mapmakerlaw20.NodingSorts", spec := "nodingSorts", unfollowed := true, recurses := true, plainKeys := false, apart := false, narrowed := true }
def NodingSortsUptoSaid : Prop := nodingSortsUptoRow.holds Try.pinned (OpenSpec.upto nodingSortsSpec)

/-- 'mapmakerlaw20.NodingSplits', WHERE WHAT IT READS IS OF BULK AT MOST 1048576: true; the input reads as it did. -/
def nodingSplitsUptoRow : OpenClaim := { program := "ytmejeiddlhjjmaa", sum := "657eb20a53052006986d9eee4feec5575ac4530a4cdd63bbb4f3fae747d25b35", func := "mapmaker/mapmakerlaw20.NodingSplits", spec := "nodingSplits", unfollowed := true, recurses := true, plainKeys := false, apart := false, narrowed := true }
def NodingSplitsUptoSaid : Prop := nodingSplitsUptoRow.holds Try.pinned (OpenSpec.upto nodingSplitsSpec)

/-- 'mapmakerlaw20.NodingCrosses', WHERE WHAT IT READS IS OF BULK AT MOST 1048576: true; the input reads as it did. -/
def nodingCrossesUptoRow : OpenClaim := { program := "ytmejeiddlhjjmaa", sum := "657eb20a53052006986d9eee4feec5575ac4530a4cdd63bbb4f3fae747d25b35", func := "mapmaker/mapmakerlaw20.NodingCrosses", spec := "nodingCrosses", unfollowed := true, recurses := true, plainKeys := false, apart := false, narrowed := true }
def NodingCrossesUptoSaid : Prop := nodingCrossesUptoRow.holds Try.pinned (OpenSpec.upto nodingCrossesSpec)

/-- 'mapmakerlaw20.NodingIdempotent', WHERE WHAT IT READS IS OF BULK AT MOST 1048576: true; the input reads as it did. -/
def nodingIdempotentUptoRow : OpenClaim := { program := "ytmejeiddlhjjmaa", sum := "657eb20a53052006986d9eee4feec5575ac4530a4cdd63bbb4f3fae747d25b35", func := "mapmaker/mapmakerlaw20.NodingIdempotent", spec := "nodingIdempotent", unfollowed := true, recurses := true, plainKeys := false, apart := false, narrowed := true }
def NodingIdempotentUptoSaid : Prop := nodingIdempotentUptoRow.holds Try.pinned (OpenSpec.upto nodingIdempotentSpec)

/-- 'mapmakerlaw20.NodingClean', WHERE WHAT IT READS IS OF BULK AT MOST 1048576: true; the input reads as it did. -/
def nodingCleanUptoRow : OpenClaim := { program := "ytmejeiddlhjjmaa", sum := "657eb20a53052006986d9eee4feec5575ac4530a4cdd63bbb4f3fae747d25b35", func := "mapmaker/mapmakerlaw20.NodingClean", spec := "nodingClean", unfollowed := true, recurses := true, plainKeys := false, apart := false, narrowed := true }
def NodingCleanUptoSaid : Prop := nodingCleanUptoRow.holds Try.pinned (OpenSpec.upto nodingCleanSpec)

end Rows
end Go.Proofs.Ytmejeiddlhjjmaa
