/-
  No cell of these rows narrows 'for every input' (looked for: loops, veiled, ifaces, maps, wideKeys, modest, calm, conditions, laid).
  DERIVED. THE GIVEN ROWS OF THIS SEAT. 11 by the template 'for every input the law returns true; each argument reads behind the call as it read before'; 0 by the template 'total and deterministic' (their statements: YtaacidhgnappdaaTotals.lean).
  GIVEN WITH THE SEED: the statements are not yours to turn. If you find one false, say at which input.
  Laid BY PROGRAM, IN A SANDBOX (cutbox-rows.mjs): the forced cells as the released guide's own fill.sh prints them over the translation 97bde9fe40bf8b1a… (all of the seat's roots in one cut). By AI agents, Wed Nov 11 2026. No macro, syntax, notation, axiom, sorry.
-/
import Derived.Test.YtaacidhgnappdaaChecked
import GoSem.Claim
import GoSem.ClaimJoined
import GoSem.ClaimMapViews
import Derived.JoinedTies
import Derived.KernelRfl
namespace Go.Proofs.Ytaacidhgnappdaa
/- THE CELL 'sum', in the pinned program and in every row, IS THE sha256 OF THE DUMP (.gsa) THAT YtaacidhgnappdaaProg.lean LOADS. Nothing in Lean hashes anything: it is a label: what it is worth is what the hold of that sum in a sandbox is worth. -/
noncomputable def Try.pinned : Pinned := { name := "ytaacidhgnappdaa", sum := "97bde9fe40bf8b1a276fd436bb8b685d1c9c947384a67ab976219b82b992a6f4", checked := Try.checked }
namespace Rows
def none {H : Type} : Left H := { results := [], args := [] }

/-- 'laws.FnExactProven': WHATEVER THE INPUT: true; the input reads as it did. -/
def fnExactProvenSpec : ChangeSpec := { name := "fnExactProven", fn := fun _ => fun
  | [d1, d2, d3, d4, d5, d6] => { results := [.lit (.bool true)], args := [d1, d2, d3, d4, d5, d6] }
  | _ => none }
def fnExactProvenRow : OpenClaim := { program := "ytaacidhgnappdaa", sum := "97bde9fe40bf8b1a276fd436bb8b685d1c9c947384a67ab976219b82b992a6f4", func := "loop.example/g00088/laws.FnExactProven", spec := "fnExactProven", unfollowed := true, recurses := true, apart := false }
def FnExactProvenSaid : Prop := fnExactProvenRow.holds Try.pinned (OpenSpec.ofChange fnExactProvenSpec)

/-- ITS FALSE NEIGHBOUR: 'it returns false'. Refute it at one input. -/
def fnExactProvenWrong : ChangeSpec := { name := "fnExactProven", fn := fun _ => fun
  | [d1, d2, d3, d4, d5, d6] => { results := [.lit (.bool false)], args := [d1, d2, d3, d4, d5, d6] }
  | _ => none }
def FnExactProvenWrongFalsely : Prop := fnExactProvenRow.holds Try.pinned (OpenSpec.ofChange fnExactProvenWrong)

/-- 'laws.FnProven': WHATEVER THE INPUT: true; the input reads as it did. -/
def fnProvenSpec : ChangeSpec := { name := "fnProven", fn := fun _ => fun
  | [d] => { results := [.lit (.bool true)], args := [d] }
  | _ => none }
def fnProvenRow : OpenClaim := { program := "ytaacidhgnappdaa", sum := "97bde9fe40bf8b1a276fd436bb8b685d1c9c947384a67ab976219b82b992a6f4", func := "loop.example/g00088/laws.FnProven", spec := "fnProven", unfollowed := true, recurses := true, apart := false }
def FnProvenSaid : Prop := fnProvenRow.holds Try.pinned (OpenSpec.ofChange fnProvenSpec)

/-- ITS FALSE NEIGHBOUR: 'it returns false'. Refute it at one input. -/
def fnProvenWrong : ChangeSpec := { name := "fnProven", fn := fun _ => fun
  | [d] => { results := [.lit (.bool false)], args := [d] }
  | _ => none }
def FnProvenWrongFalsely : Prop := fnProvenRow.holds Try.pinned (OpenSpec.ofChange fnProvenWrong)

/-- 'laws.FnExactTreeRoot': WHATEVER THE INPUT: true; the input reads as it did. -/
def fnExactTreeRootSpec : ChangeSpec := { name := "fnExactTreeRoot", fn := fun _ => fun
  | [d1, d2] => { results := [.lit (.bool true)], args := [d1, d2] }
  | _ => none }
def fnExactTreeRootRow : OpenClaim := { program := "ytaacidhgnappdaa", sum := "97bde9fe40bf8b1a276fd436bb8b685d1c9c947384a67ab976219b82b992a6f4", func := "loop.example/g00088/laws.FnExactTreeRoot", spec := "fnExactTreeRoot", unfollowed := true, recurses := true, apart := false }
def FnExactTreeRootSaid : Prop := fnExactTreeRootRow.holds Try.pinned (OpenSpec.ofChange fnExactTreeRootSpec)

/-- ITS FALSE NEIGHBOUR: 'it returns false'. Refute it at one input. -/
def fnExactTreeRootWrong : ChangeSpec := { name := "fnExactTreeRoot", fn := fun _ => fun
  | [d1, d2] => { results := [.lit (.bool false)], args := [d1, d2] }
  | _ => none }
def FnExactTreeRootWrongFalsely : Prop := fnExactTreeRootRow.holds Try.pinned (OpenSpec.ofChange fnExactTreeRootWrong)

/-- 'laws.FnExactChanged': WHATEVER THE INPUT: true; the input reads as it did. -/
def fnExactChangedSpec : ChangeSpec := { name := "fnExactChanged", fn := fun _ => fun
  | [d1, d2, d3, d4] => { results := [.lit (.bool true)], args := [d1, d2, d3, d4] }
  | _ => none }
def fnExactChangedRow : OpenClaim := { program := "ytaacidhgnappdaa", sum := "97bde9fe40bf8b1a276fd436bb8b685d1c9c947384a67ab976219b82b992a6f4", func := "loop.example/g00088/laws.FnExactChanged", spec := "fnExactChanged", unfollowed := true, recurses := true, apart := false }
def FnExactChangedSaid : Prop := fnExactChangedRow.holds Try.pinned (OpenSpec.ofChange fnExactChangedSpec)

/-- ITS FALSE NEIGHBOUR: 'it returns false'. Refute it at one input. -/
def fnExactChangedWrong : ChangeSpec := { name := "fnExactChanged", fn := fun _ => fun
  | [d1, d2, d3, d4] => { results := [.lit (.bool false)], args := [d1, d2, d3, d4] }
  | _ => none }
def FnExactChangedWrongFalsely : Prop := fnExactChangedRow.holds Try.pinned (OpenSpec.ofChange fnExactChangedWrong)

/-- 'laws.FnExactPath': WHATEVER THE INPUT: true; the input reads as it did. -/
def fnExactPathSpec : ChangeSpec := { name := "fnExactPath", fn := fun _ => fun
  | [d1, d2, d3] => { results := [.lit (.bool true)], args := [d1, d2, d3] }
  | _ => none }
def fnExactPathRow : OpenClaim := { program := "ytaacidhgnappdaa", sum := "97bde9fe40bf8b1a276fd436bb8b685d1c9c947384a67ab976219b82b992a6f4", func := "loop.example/g00088/laws.FnExactPath", spec := "fnExactPath", unfollowed := true, recurses := true, apart := false }
def FnExactPathSaid : Prop := fnExactPathRow.holds Try.pinned (OpenSpec.ofChange fnExactPathSpec)

/-- ITS FALSE NEIGHBOUR: 'it returns false'. Refute it at one input. -/
def fnExactPathWrong : ChangeSpec := { name := "fnExactPath", fn := fun _ => fun
  | [d1, d2, d3] => { results := [.lit (.bool false)], args := [d1, d2, d3] }
  | _ => none }
def FnExactPathWrongFalsely : Prop := fnExactPathRow.holds Try.pinned (OpenSpec.ofChange fnExactPathWrong)

/-- 'laws.FnExactFromPaths': WHATEVER THE INPUT: true; the input reads as it did. -/
def fnExactFromPathsSpec : ChangeSpec := { name := "fnExactFromPaths", fn := fun _ => fun
  | [d1, d2, d3, d4, d5, d6, d7] => { results := [.lit (.bool true)], args := [d1, d2, d3, d4, d5, d6, d7] }
  | _ => none }
def fnExactFromPathsRow : OpenClaim := { program := "ytaacidhgnappdaa", sum := "97bde9fe40bf8b1a276fd436bb8b685d1c9c947384a67ab976219b82b992a6f4", func := "loop.example/g00088/laws.FnExactFromPaths", spec := "fnExactFromPaths", unfollowed := true, recurses := true, apart := false }
def FnExactFromPathsSaid : Prop := fnExactFromPathsRow.holds Try.pinned (OpenSpec.ofChange fnExactFromPathsSpec)

/-- ITS FALSE NEIGHBOUR: 'it returns false'. Refute it at one input. -/
def fnExactFromPathsWrong : ChangeSpec := { name := "fnExactFromPaths", fn := fun _ => fun
  | [d1, d2, d3, d4, d5, d6, d7] => { results := [.lit (.bool false)], args := [d1, d2, d3, d4, d5, d6, d7] }
  | _ => none }
def FnExactFromPathsWrongFalsely : Prop := fnExactFromPathsRow.holds Try.pinned (OpenSpec.ofChange fnExactFromPathsWrong)

/-- 'laws.FnExactManyFrom': WHATEVER THE INPUT: true; the input reads as it did. -/
def fnExactManyFromSpec : ChangeSpec := { name := "fnExactManyFrom", fn := fun _ => fun
  | [d1, d2, d3, d4, d5] => { results := [.lit (.bool true)], args := [d1, d2, d3, d4, d5] }
  | _ => none }
def fnExactManyFromRow : OpenClaim := { program := "ytaacidhgnappdaa", sum := "97bde9fe40bf8b1a276fd436bb8b685d1c9c947384a67ab976219b82b992a6f4", func := "loop.example/g00088/laws.FnExactManyFrom", spec := "fnExactManyFrom", unfollowed := true, recurses := true, apart := false }
def FnExactManyFromSaid : Prop := fnExactManyFromRow.holds Try.pinned (OpenSpec.ofChange fnExactManyFromSpec)

/-- ITS FALSE NEIGHBOUR: 'it returns false'. Refute it at one input. -/
def fnExactManyFromWrong : ChangeSpec := { name := "fnExactManyFrom", fn := fun _ => fun
  | [d1, d2, d3, d4, d5] => { results := [.lit (.bool false)], args := [d1, d2, d3, d4, d5] }
  | _ => none }
def FnExactManyFromWrongFalsely : Prop := fnExactManyFromRow.holds Try.pinned (OpenSpec.ofChange fnExactManyFromWrong)

/-- 'laws.FnExactManyProven': WHATEVER THE INPUT: true; the input reads as it did. -/
def fnExactManyProvenSpec : ChangeSpec := { name := "fnExactManyProven", fn := fun _ => fun
  | [d1, d2, d3, d4, d5, d6] => { results := [.lit (.bool true)], args := [d1, d2, d3, d4, d5, d6] }
  | _ => none }
def fnExactManyProvenRow : OpenClaim := { program := "ytaacidhgnappdaa", sum := "97bde9fe40bf8b1a276fd436bb8b685d1c9c947384a67ab976219b82b992a6f4", func := "loop.example/g00088/laws.FnExactManyProven", spec := "fnExactManyProven", unfollowed := true, recurses := true, apart := false }
def FnExactManyProvenSaid : Prop := fnExactManyProvenRow.holds Try.pinned (OpenSpec.ofChange fnExactManyProvenSpec)

/-- ITS FALSE NEIGHBOUR: 'it returns false'. Refute it at one input. -/
def fnExactManyProvenWrong : ChangeSpec := { name := "fnExactManyProven", fn := fun _ => fun
  | [d1, d2, d3, d4, d5, d6] => { results := [.lit (.bool false)], args := [d1, d2, d3, d4, d5, d6] }
  | _ => none }
def FnExactManyProvenWrongFalsely : Prop := fnExactManyProvenRow.holds Try.pinned (OpenSpec.ofChange fnExactManyProvenWrong)

/-- 'laws.FnExactHonest': WHATEVER THE INPUT: true; the input reads as it did. -/
def fnExactHonestSpec : ChangeSpec := { name := "fnExactHonest", fn := fun _ => fun
  | [d1, d2, d3] => { results := [.lit (.bool true)], args := [d1, d2, d3] }
  | _ => none }
def fnExactHonestRow : OpenClaim := { program := "ytaacidhgnappdaa", sum := "97bde9fe40bf8b1a276fd436bb8b685d1c9c947384a67ab976219b82b992a6f4", func := "loop.example/g00088/laws.FnExactHonest", spec := "fnExactHonest", unfollowed := true, recurses := true, apart := false }
def FnExactHonestSaid : Prop := fnExactHonestRow.holds Try.pinned (OpenSpec.ofChange fnExactHonestSpec)

/-- ITS FALSE NEIGHBOUR: 'it returns false'. Refute it at one input. -/
def fnExactHonestWrong : ChangeSpec := { name := "fnExactHonest", fn := fun _ => fun
  | [d1, d2, d3] => { results := [.lit (.bool false)], args := [d1, d2, d3] }
  | _ => none }
def FnExactHonestWrongFalsely : Prop := fnExactHonestRow.holds Try.pinned (OpenSpec.ofChange fnExactHonestWrong)

/-- 'laws.FnExactManyPath': WHATEVER THE INPUT: true; the input reads as it did. -/
def fnExactManyPathSpec : ChangeSpec := { name := "fnExactManyPath", fn := fun _ => fun
  | [d1, d2, d3] => { results := [.lit (.bool true)], args := [d1, d2, d3] }
  | _ => none }
def fnExactManyPathRow : OpenClaim := { program := "ytaacidhgnappdaa", sum := "97bde9fe40bf8b1a276fd436bb8b685d1c9c947384a67ab976219b82b992a6f4", func := "loop.example/g00088/laws.FnExactManyPath", spec := "fnExactManyPath", unfollowed := true, recurses := true, apart := false }
def FnExactManyPathSaid : Prop := fnExactManyPathRow.holds Try.pinned (OpenSpec.ofChange fnExactManyPathSpec)

/-- ITS FALSE NEIGHBOUR: 'it returns false'. Refute it at one input. -/
def fnExactManyPathWrong : ChangeSpec := { name := "fnExactManyPath", fn := fun _ => fun
  | [d1, d2, d3] => { results := [.lit (.bool false)], args := [d1, d2, d3] }
  | _ => none }
def FnExactManyPathWrongFalsely : Prop := fnExactManyPathRow.holds Try.pinned (OpenSpec.ofChange fnExactManyPathWrong)

/-- 'laws.FnExactFromMany': WHATEVER THE INPUT: true; the input reads as it did. -/
def fnExactFromManySpec : ChangeSpec := { name := "fnExactFromMany", fn := fun _ => fun
  | [d1, d2, d3, d4, d5, d6] => { results := [.lit (.bool true)], args := [d1, d2, d3, d4, d5, d6] }
  | _ => none }
def fnExactFromManyRow : OpenClaim := { program := "ytaacidhgnappdaa", sum := "97bde9fe40bf8b1a276fd436bb8b685d1c9c947384a67ab976219b82b992a6f4", func := "loop.example/g00088/laws.FnExactFromMany", spec := "fnExactFromMany", unfollowed := true, recurses := true, apart := false }
def FnExactFromManySaid : Prop := fnExactFromManyRow.holds Try.pinned (OpenSpec.ofChange fnExactFromManySpec)

/-- ITS FALSE NEIGHBOUR: 'it returns false'. Refute it at one input. -/
def fnExactFromManyWrong : ChangeSpec := { name := "fnExactFromMany", fn := fun _ => fun
  | [d1, d2, d3, d4, d5, d6] => { results := [.lit (.bool false)], args := [d1, d2, d3, d4, d5, d6] }
  | _ => none }
def FnExactFromManyWrongFalsely : Prop := fnExactFromManyRow.holds Try.pinned (OpenSpec.ofChange fnExactFromManyWrong)

/- THE SECOND FORM. 'bulk': how many values and letters a reading holds, each counted each time it is reached (what is shared counts as often as it is met; a slice's spare places count too). A statement '..UptoSaid' is the law's where the arguments, and the package variables that the reading takes, are together of bulk at most 1048576: NARROWER than '..Said'. Prove '..Said' where nothing that the law and all that it calls make is longer than what came in: it says more and counts as full. Else prove '..UptoSaid'. A law counts once. -/
mutual
def uptoBulk {H : Type} : DataW H → Nat
  | .lit (.string bytes) => bytes.length + 1
  | .lit _ => 1
  | .nil => 1
  | .ptr d => uptoBulk d + 1
  | .slice elems spare => uptoBulkAll elems + uptoBulkAll spare + 1
  | .agg parts => uptoBulkAll parts + 1
  | .iface _ d => uptoBulk d + 1
  | .map entries => uptoBulkEntries entries + 1
  | .held _ => 1
def uptoBulkAll {H : Type} : List (DataW H) → Nat
  | [] => 0
  | d :: r => uptoBulk d + uptoBulkAll r
def uptoBulkEntries {H : Type} : List (Lit × DataW H) → Nat
  | [] => 0
  | x :: r => uptoBulkEntry x + uptoBulkEntries r
def uptoBulkEntry {H : Type} : Lit × DataW H → Nat
  | (.string bytes, d) => bytes.length + uptoBulk d + 1
  | (_, d) => uptoBulk d + 1
 end
def uptoSmall : (H : Type) → List (DataW H) → Bool := fun _ ds => decide (uptoBulkAll ds ≤ 1048576)
def OpenSpec.upto (s : _root_.Go.ChangeSpec) : _root_.Go.OpenSpec := { _root_.Go.OpenSpec.ofChange s with cond := some uptoSmall }

/-- 'laws.FnExactProven', WHERE WHAT IT READS IS OF BULK AT MOST 1048576: true; the input reads as it did. -/
def fnExactProvenUptoRow : OpenClaim := { program := "ytaacidhgnappdaa", sum := "97bde9fe40bf8b1a276fd436bb8b685d1c9c947384a67ab976219b82b992a6f4", func := "loop.example/g00088/laws.FnExactProven", spec := "fnExactProven", unfollowed := true, recurses := true, apart := false, narrowed := true }
def FnExactProvenUptoSaid : Prop := fnExactProvenUptoRow.holds Try.pinned (OpenSpec.upto fnExactProvenSpec)

/-- 'laws.FnProven', WHERE WHAT IT READS IS OF BULK AT MOST 1048576: true; the input reads as it did. -/
def fnProvenUptoRow : OpenClaim := { program := "ytaacidhgnappdaa", sum := "97bde9fe40bf8b1a276fd436bb8b685d1c9c947384a67ab976219b82b992a6f4", func := "loop.example/g00088/laws.FnProven", spec := "fnProven", unfollowed := true, recurses := true, apart := false, narrowed := true }
def FnProvenUptoSaid : Prop := fnProvenUptoRow.holds Try.pinned (OpenSpec.upto fnProvenSpec)

/-- 'laws.FnExactTreeRoot', WHERE WHAT IT READS IS OF BULK AT MOST 1048576: true; the input reads as it did. -/
def fnExactTreeRootUptoRow : OpenClaim := { program := "ytaacidhgnappdaa", sum := "97bde9fe40bf8b1a276fd436bb8b685d1c9c947384a67ab976219b82b992a6f4", func := "loop.example/g00088/laws.FnExactTreeRoot", spec := "fnExactTreeRoot", unfollowed := true, recurses := true, apart := false, narrowed := true }
def FnExactTreeRootUptoSaid : Prop := fnExactTreeRootUptoRow.holds Try.pinned (OpenSpec.upto fnExactTreeRootSpec)

/-- 'laws.FnExactChanged', WHERE WHAT IT READS IS OF BULK AT MOST 1048576: true; the input reads as it did. -/
def fnExactChangedUptoRow : OpenClaim := { program := "ytaacidhgnappdaa", sum := "97bde9fe40bf8b1a276fd436bb8b685d1c9c947384a67ab976219b82b992a6f4", func := "loop.example/g00088/laws.FnExactChanged", spec := "fnExactChanged", unfollowed := true, recurses := true, apart := false, narrowed := true }
def FnExactChangedUptoSaid : Prop := fnExactChangedUptoRow.holds Try.pinned (OpenSpec.upto fnExactChangedSpec)

/-- 'laws.FnExactPath', WHERE WHAT IT READS IS OF BULK AT MOST 1048576: true; the input reads as it did. -/
def fnExactPathUptoRow : OpenClaim := { program := "ytaacidhgnappdaa", sum := "97bde9fe40bf8b1a276fd436bb8b685d1c9c947384a67ab976219b82b992a6f4", func := "loop.example/g00088/laws.FnExactPath", spec := "fnExactPath", unfollowed := true, recurses := true, apart := false, narrowed := true }
def FnExactPathUptoSaid : Prop := fnExactPathUptoRow.holds Try.pinned (OpenSpec.upto fnExactPathSpec)

/-- 'laws.FnExactFromPaths', WHERE WHAT IT READS IS OF BULK AT MOST 1048576: true; the input reads as it did. -/
def fnExactFromPathsUptoRow : OpenClaim := { program := "ytaacidhgnappdaa", sum := "97bde9fe40bf8b1a276fd436bb8b685d1c9c947384a67ab976219b82b992a6f4", func := "loop.example/g00088/laws.FnExactFromPaths", spec := "fnExactFromPaths", unfollowed := true, recurses := true, apart := false, narrowed := true }
def FnExactFromPathsUptoSaid : Prop := fnExactFromPathsUptoRow.holds Try.pinned (OpenSpec.upto fnExactFromPathsSpec)

/-- 'laws.FnExactManyFrom', WHERE WHAT IT READS IS OF BULK AT MOST 1048576: true; the input reads as it did. -/
def fnExactManyFromUptoRow : OpenClaim := { program := "ytaacidhgnappdaa", sum := "97bde9fe40bf8b1a276fd436bb8b685d1c9c947384a67ab976219b82b992a6f4", func := "loop.example/g00088/laws.FnExactManyFrom", spec := "fnExactManyFrom", unfollowed := true, recurses := true, apart := false, narrowed := true }
def FnExactManyFromUptoSaid : Prop := fnExactManyFromUptoRow.holds Try.pinned (OpenSpec.upto fnExactManyFromSpec)

/-- 'laws.FnExactManyProven', WHERE WHAT IT READS IS OF BULK AT MOST 1048576: true; the input reads as it did. -/
def fnExactManyProvenUptoRow : OpenClaim := { program := "ytaacidhgnappdaa", sum := "97bde9fe40bf8b1a276fd436bb8b685d1c9c947384a67ab976219b82b992a6f4", func := "loop.example/g00088/laws.FnExactManyProven", spec := "fnExactManyProven", unfollowed := true, recurses := true, apart := false, narrowed := true }
def FnExactManyProvenUptoSaid : Prop := fnExactManyProvenUptoRow.holds Try.pinned (OpenSpec.upto fnExactManyProvenSpec)

/-- 'laws.FnExactHonest', WHERE WHAT IT READS IS OF BULK AT MOST 1048576: true; the input reads as it did. -/
def fnExactHonestUptoRow : OpenClaim := { program := "ytaacidhgnappdaa", sum := "97bde9fe40bf8b1a276fd436bb8b685d1c9c947384a67ab976219b82b992a6f4", func := "loop.example/g00088/laws.FnExactHonest", spec := "fnExactHonest", unfollowed := true, recurses := true, apart := false, narrowed := true }
def FnExactHonestUptoSaid : Prop := fnExactHonestUptoRow.holds Try.pinned (OpenSpec.upto fnExactHonestSpec)

/-- 'laws.FnExactManyPath', WHERE WHAT IT READS IS OF BULK AT MOST 1048576: true; the input reads as it did. -/
def fnExactManyPathUptoRow : OpenClaim := { program := "ytaacidhgnappdaa", sum := "97bde9fe40bf8b1a276fd436bb8b685d1c9c947384a67ab976219b82b992a6f4", func := "loop.example/g00088/laws.FnExactManyPath", spec := "fnExactManyPath", unfollowed := true, recurses := true, apart := false, narrowed := true }
def FnExactManyPathUptoSaid : Prop := fnExactManyPathUptoRow.holds Try.pinned (OpenSpec.upto fnExactManyPathSpec)

/-- 'laws.FnExactFromMany', WHERE WHAT IT READS IS OF BULK AT MOST 1048576: true; the input reads as it did. -/
def fnExactFromManyUptoRow : OpenClaim := { program := "ytaacidhgnappdaa", sum := "97bde9fe40bf8b1a276fd436bb8b685d1c9c947384a67ab976219b82b992a6f4", func := "loop.example/g00088/laws.FnExactFromMany", spec := "fnExactFromMany", unfollowed := true, recurses := true, apart := false, narrowed := true }
def FnExactFromManyUptoSaid : Prop := fnExactFromManyUptoRow.holds Try.pinned (OpenSpec.upto fnExactFromManySpec)

end Rows
end Go.Proofs.Ytaacidhgnappdaa
