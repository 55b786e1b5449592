/-
  No cell of these rows narrows 'for every input' (looked for: loops, veiled, ifaces, maps, wideKeys, modest, calm, conditions, laid).
  DERIVED. THE GIVEN ROWS OF THIS SEAT. 6 by the template 'for every input the law returns true; each argument reads behind the call as it read before'; 0 by the template 'total and deterministic' (their statements: YtchjajbkaiefdaaTotals.lean).
  GIVEN WITH THE SEED: the statements are not yours to turn. If you find one false, say at which input.
  Laid BY PROGRAM, IN A SANDBOX (cutbox-rows.mjs): the forced cells as the released guide's own fill.sh prints them over the translation 0f13357306cfd994… (all of the seat's roots in one cut). By AI agents, Wed Nov 11 2026. No macro, syntax, notation, axiom, sorry.
-/
import Derived.Test.YtchjajbkaiefdaaChecked
import GoSem.Claim
import GoSem.ClaimJoined
import GoSem.ClaimMapViews
import Derived.JoinedTies
import Derived.KernelRfl
namespace Go.Proofs.Ytchjajbkaiefdaa
/- THE CELL 'sum', in the pinned program and in every row, IS THE sha256 OF THE DUMP (.gsa) THAT YtchjajbkaiefdaaProg.lean LOADS. Nothing in Lean hashes anything: it is a label: what it is worth is what the hold of that sum in a sandbox is worth. -/
noncomputable def Try.pinned : Pinned := { name := "ytchjajbkaiefdaa", sum := "0f13357306cfd994ca36404ca40d1ba96815b0beadf057d901a237c8e632689a", checked := Try.checked }
namespace Rows
def none {H : Type} : Left H := { results := [], args := [] }

/-- 'laws.FnClaims': WHATEVER THE INPUT: true; the input reads as it did. -/
def fnClaimsSpec : ChangeSpec := { name := "fnClaims", fn := fun _ => fun
  | [d] => { results := [.lit (.bool true)], args := [d] }
  | _ => none }
def fnClaimsRow : OpenClaim := { program := "ytchjajbkaiefdaa", sum := "0f13357306cfd994ca36404ca40d1ba96815b0beadf057d901a237c8e632689a", func := "loop.example/g00088/laws.FnClaims", spec := "fnClaims", unfollowed := true, recurses := true, apart := false }
def FnClaimsSaid : Prop := fnClaimsRow.holds Try.pinned (OpenSpec.ofChange fnClaimsSpec)

/-- ITS FALSE NEIGHBOUR: 'it returns false'. Refute it at one input. -/
def fnClaimsWrong : ChangeSpec := { name := "fnClaims", fn := fun _ => fun
  | [d] => { results := [.lit (.bool false)], args := [d] }
  | _ => none }
def FnClaimsWrongFalsely : Prop := fnClaimsRow.holds Try.pinned (OpenSpec.ofChange fnClaimsWrong)

/-- 'laws.FnForgery': WHATEVER THE INPUT: true; the input reads as it did. -/
def fnForgerySpec : ChangeSpec := { name := "fnForgery", fn := fun _ => fun
  | [d] => { results := [.lit (.bool true)], args := [d] }
  | _ => none }
def fnForgeryRow : OpenClaim := { program := "ytchjajbkaiefdaa", sum := "0f13357306cfd994ca36404ca40d1ba96815b0beadf057d901a237c8e632689a", func := "loop.example/g00088/laws.FnForgery", spec := "fnForgery", unfollowed := true, recurses := true, apart := false }
def FnForgerySaid : Prop := fnForgeryRow.holds Try.pinned (OpenSpec.ofChange fnForgerySpec)

/-- ITS FALSE NEIGHBOUR: 'it returns false'. Refute it at one input. -/
def fnForgeryWrong : ChangeSpec := { name := "fnForgery", fn := fun _ => fun
  | [d] => { results := [.lit (.bool false)], args := [d] }
  | _ => none }
def FnForgeryWrongFalsely : Prop := fnForgeryRow.holds Try.pinned (OpenSpec.ofChange fnForgeryWrong)

/-- 'laws.FnExactFromLeaves': WHATEVER THE INPUT: true; the input reads as it did. -/
def fnExactFromLeavesSpec : ChangeSpec := { name := "fnExactFromLeaves", fn := fun _ => fun
  | [d1, d2, d3] => { results := [.lit (.bool true)], args := [d1, d2, d3] }
  | _ => none }
def fnExactFromLeavesRow : OpenClaim := { program := "ytchjajbkaiefdaa", sum := "0f13357306cfd994ca36404ca40d1ba96815b0beadf057d901a237c8e632689a", func := "loop.example/g00088/laws.FnExactFromLeaves", spec := "fnExactFromLeaves", unfollowed := true, recurses := true, apart := false }
def FnExactFromLeavesSaid : Prop := fnExactFromLeavesRow.holds Try.pinned (OpenSpec.ofChange fnExactFromLeavesSpec)

/-- ITS FALSE NEIGHBOUR: 'it returns false'. Refute it at one input. -/
def fnExactFromLeavesWrong : ChangeSpec := { name := "fnExactFromLeaves", fn := fun _ => fun
  | [d1, d2, d3] => { results := [.lit (.bool false)], args := [d1, d2, d3] }
  | _ => none }
def FnExactFromLeavesWrongFalsely : Prop := fnExactFromLeavesRow.holds Try.pinned (OpenSpec.ofChange fnExactFromLeavesWrong)

/-- 'laws.FnExactLiar': WHATEVER THE INPUT: true; the input reads as it did. -/
def fnExactLiarSpec : ChangeSpec := { name := "fnExactLiar", fn := fun _ => fun
  | [d1, d2, d3] => { results := [.lit (.bool true)], args := [d1, d2, d3] }
  | _ => none }
def fnExactLiarRow : OpenClaim := { program := "ytchjajbkaiefdaa", sum := "0f13357306cfd994ca36404ca40d1ba96815b0beadf057d901a237c8e632689a", func := "loop.example/g00088/laws.FnExactLiar", spec := "fnExactLiar", unfollowed := true, recurses := true, apart := false }
def FnExactLiarSaid : Prop := fnExactLiarRow.holds Try.pinned (OpenSpec.ofChange fnExactLiarSpec)

/-- ITS FALSE NEIGHBOUR: 'it returns false'. Refute it at one input. -/
def fnExactLiarWrong : ChangeSpec := { name := "fnExactLiar", fn := fun _ => fun
  | [d1, d2, d3] => { results := [.lit (.bool false)], args := [d1, d2, d3] }
  | _ => none }
def FnExactLiarWrongFalsely : Prop := fnExactLiarRow.holds Try.pinned (OpenSpec.ofChange fnExactLiarWrong)

/-- 'laws.FnMany': WHATEVER THE INPUT: true; the input reads as it did. -/
def fnManySpec : ChangeSpec := { name := "fnMany", fn := fun _ => fun
  | [d] => { results := [.lit (.bool true)], args := [d] }
  | _ => none }
def fnManyRow : OpenClaim := { program := "ytchjajbkaiefdaa", sum := "0f13357306cfd994ca36404ca40d1ba96815b0beadf057d901a237c8e632689a", func := "loop.example/g00088/laws.FnMany", spec := "fnMany", unfollowed := true, recurses := true, apart := false }
def FnManySaid : Prop := fnManyRow.holds Try.pinned (OpenSpec.ofChange fnManySpec)

/-- ITS FALSE NEIGHBOUR: 'it returns false'. Refute it at one input. -/
def fnManyWrong : ChangeSpec := { name := "fnMany", fn := fun _ => fun
  | [d] => { results := [.lit (.bool false)], args := [d] }
  | _ => none }
def FnManyWrongFalsely : Prop := fnManyRow.holds Try.pinned (OpenSpec.ofChange fnManyWrong)

/-- 'laws.FnExactFirstLiar': WHATEVER THE INPUT: true; the input reads as it did. -/
def fnExactFirstLiarSpec : ChangeSpec := { name := "fnExactFirstLiar", fn := fun _ => fun
  | [d1, d2, d3] => { results := [.lit (.bool true)], args := [d1, d2, d3] }
  | _ => none }
def fnExactFirstLiarRow : OpenClaim := { program := "ytchjajbkaiefdaa", sum := "0f13357306cfd994ca36404ca40d1ba96815b0beadf057d901a237c8e632689a", func := "loop.example/g00088/laws.FnExactFirstLiar", spec := "fnExactFirstLiar", unfollowed := true, recurses := true, apart := false }
def FnExactFirstLiarSaid : Prop := fnExactFirstLiarRow.holds Try.pinned (OpenSpec.ofChange fnExactFirstLiarSpec)

/-- ITS FALSE NEIGHBOUR: 'it returns false'. Refute it at one input. -/
def fnExactFirstLiarWrong : ChangeSpec := { name := "fnExactFirstLiar", fn := fun _ => fun
  | [d1, d2, d3] => { results := [.lit (.bool false)], args := [d1, d2, d3] }
  | _ => none }
def FnExactFirstLiarWrongFalsely : Prop := fnExactFirstLiarRow.holds Try.pinned (OpenSpec.ofChange fnExactFirstLiarWrong)

/- THE SECOND FORM. 'bulk': how many values and letters a reading holds, each counted each time it is reached (what is shared counts as often as it is met; a slice's spare places count too). A statement '..UptoSaid' is the law's where the arguments, and the package variables that the reading takes, are together of bulk at most 1048576: NARROWER than '..Said'. Prove '..Said' where nothing that the law and all that it calls make is longer than what came in: it says more and counts as full. Else prove '..UptoSaid'. A law counts once. -/
mutual
def uptoBulk {H : Type} : DataW H → Nat
  | .lit (.string bytes) => bytes.length + 1
  | .lit _ => 1
  | .nil => 1
  | .ptr d => uptoBulk d + 1
  | .slice elems spare => uptoBulkAll elems + uptoBulkAll spare + 1
  | .agg parts => uptoBulkAll parts + 1
  | .iface _ d => uptoBulk d + 1
  | .map entries => uptoBulkEntries entries + 1
  | .held _ => 1
def uptoBulkAll {H : Type} : List (DataW H) → Nat
  | [] => 0
  | d :: r => uptoBulk d + uptoBulkAll r
def uptoBulkEntries {H : Type} : List (Lit × DataW H) → Nat
  | [] => 0
  | x :: r => uptoBulkEntry x + uptoBulkEntries r
def uptoBulkEntry {H : Type} : Lit × DataW H → Nat
  | (.string bytes, d) => bytes.length + uptoBulk d + 1
  | (_, d) => uptoBulk d + 1
 end
def uptoSmall : (H : Type) → List (DataW H) → Bool := fun _ ds => decide (uptoBulkAll ds ≤ 1048576)
def OpenSpec.upto (s : _root_.Go.ChangeSpec) : _root_.Go.OpenSpec := { _root_.Go.OpenSpec.ofChange s with cond := some uptoSmall }

/-- 'laws.FnClaims', WHERE WHAT IT READS IS OF BULK AT MOST 1048576: true; the input reads as it did. -/
def fnClaimsUptoRow : OpenClaim := { program := "ytchjajbkaiefdaa", sum := "0f13357306cfd994ca36404ca40d1ba96815b0beadf057d901a237c8e632689a", func := "loop.example/g00088/laws.FnClaims", spec := "fnClaims", unfollowed := true, recurses := true, apart := false, narrowed := true }
def FnClaimsUptoSaid : Prop := fnClaimsUptoRow.holds Try.pinned (OpenSpec.upto fnClaimsSpec)

/-- 'laws.FnForgery', WHERE WHAT IT READS IS OF BULK AT MOST 1048576: true; the input reads as it did. -/
def fnForgeryUptoRow : OpenClaim := { program := "ytchjajbkaiefdaa", sum := "0f13357306cfd994ca36404ca40d1ba96815b0beadf057d901a237c8e632689a", func := "loop.example/g00088/laws.FnForgery", spec := "fnForgery", unfollowed := true, recurses := true, apart := false, narrowed := true }
def FnForgeryUptoSaid : Prop := fnForgeryUptoRow.holds Try.pinned (OpenSpec.upto fnForgerySpec)

/-- 'laws.FnExactFromLeaves', WHERE WHAT IT READS IS OF BULK AT MOST 1048576: true; the input reads as it did. -/
def fnExactFromLeavesUptoRow : OpenClaim := { program := "ytchjajbkaiefdaa", sum := "0f13357306cfd994ca36404ca40d1ba96815b0beadf057d901a237c8e632689a", func := "loop.example/g00088/laws.FnExactFromLeaves", spec := "fnExactFromLeaves", unfollowed := true, recurses := true, apart := false, narrowed := true }
def FnExactFromLeavesUptoSaid : Prop := fnExactFromLeavesUptoRow.holds Try.pinned (OpenSpec.upto fnExactFromLeavesSpec)

/-- 'laws.FnExactLiar', WHERE WHAT IT READS IS OF BULK AT MOST 1048576: true; the input reads as it did. -/
def fnExactLiarUptoRow : OpenClaim := { program := "ytchjajbkaiefdaa", sum := "0f13357306cfd994ca36404ca40d1ba96815b0beadf057d901a237c8e632689a", func := "loop.example/g00088/laws.FnExactLiar", spec := "fnExactLiar", unfollowed := true, recurses := true, apart := false, narrowed := true }
def FnExactLiarUptoSaid : Prop := fnExactLiarUptoRow.holds Try.pinned (OpenSpec.upto fnExactLiarSpec)

/-- 'laws.FnMany', WHERE WHAT IT READS IS OF BULK AT MOST 1048576: true; the input reads as it did. -/
def fnManyUptoRow : OpenClaim := { program := "ytchjajbkaiefdaa", sum := "0f13357306cfd994ca36404ca40d1ba96815b0beadf057d901a237c8e632689a", func := "loop.example/g00088/laws.FnMany", spec := "fnMany", unfollowed := true, recurses := true, apart := false, narrowed := true }
def FnManyUptoSaid : Prop := fnManyUptoRow.holds Try.pinned (OpenSpec.upto fnManySpec)

/-- 'laws.FnExactFirstLiar', WHERE WHAT IT READS IS OF BULK AT MOST 1048576: true; the input reads as it did. -/
def fnExactFirstLiarUptoRow : OpenClaim := { program := "ytchjajbkaiefdaa", sum := "0f13357306cfd994ca36404ca40d1ba96815b0beadf057d901a237c8e632689a", func := "loop.example/g00088/laws.FnExactFirstLiar", spec := "fnExactFirstLiar", unfollowed := true, recurses := true, apart := false, narrowed := true }
def FnExactFirstLiarUptoSaid : Prop := fnExactFirstLiarUptoRow.holds Try.pinned (OpenSpec.upto fnExactFirstLiarSpec)

end Rows
end Go.Proofs.Ytchjajbkaiefdaa
