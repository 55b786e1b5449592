/-
  No cell of these rows narrows 'for every input' (looked for: loops, veiled, ifaces, maps, wideKeys, modest, calm, conditions, laid).
  DERIVED. THE GIVEN ROWS OF THIS SEAT. 9 by the template 'for every input the law returns true; each argument reads behind the call as it read before'; 0 by the template 'total and deterministic' (their statements: YthaoloacbbohlaaTotals.lean).
  GIVEN WITH THE SEED: the statements are not yours to turn. If you find one false, say at which input.
  Laid BY PROGRAM, IN A SANDBOX (cutbox-rows.mjs): the forced cells as the released guide's own fill.sh prints them over the translation fc8cdd6368050643… (all of the seat's roots in one cut). By AI agents, Wed Nov 11 2026. No macro, syntax, notation, axiom, sorry.
-/
import Derived.Test.YthaoloacbbohlaaChecked
import GoSem.Claim
import GoSem.ClaimJoined
import GoSem.ClaimMapViews
import Derived.JoinedTies
import Derived.KernelRfl
namespace Go.Proofs.Ythaoloacbbohlaa
/- THE CELL 'sum', in the pinned program and in every row, IS THE sha256 OF THE DUMP (.gsa) THAT YthaoloacbbohlaaProg.lean LOADS. Nothing in Lean hashes anything: it is a label: what it is worth is what the hold of that sum in a sandbox is worth. -/
noncomputable def Try.pinned : Pinned := { name := "ythaoloacbbohlaa", sum := "fc8cdd636805064345d16e1a3683efd466894b88511b940f251c6e486bd052bd", checked := Try.checked }
namespace Rows
def none {H : Type} : Left H := { results := [], args := [] }

/-- 'laws.FnExactParts': WHATEVER THE INPUT: true; the input reads as it did. -/
def fnExactPartsSpec : ChangeSpec := { name := "fnExactParts", fn := fun _ => fun
  | [d] => { results := [.lit (.bool true)], args := [d] }
  | _ => none }
def fnExactPartsRow : OpenClaim := { program := "ythaoloacbbohlaa", sum := "fc8cdd636805064345d16e1a3683efd466894b88511b940f251c6e486bd052bd", func := "loop.example/g00088/laws.FnExactParts", spec := "fnExactParts", apart := false }
def FnExactPartsSaid : Prop := fnExactPartsRow.holds Try.pinned (OpenSpec.ofChange fnExactPartsSpec)

/-- ITS FALSE NEIGHBOUR: 'it returns false'. Refute it at one input. -/
def fnExactPartsWrong : ChangeSpec := { name := "fnExactParts", fn := fun _ => fun
  | [d] => { results := [.lit (.bool false)], args := [d] }
  | _ => none }
def FnExactPartsWrongFalsely : Prop := fnExactPartsRow.holds Try.pinned (OpenSpec.ofChange fnExactPartsWrong)

/-- 'laws.FnExactUnparts': WHATEVER THE INPUT: true; the input reads as it did. -/
def fnExactUnpartsSpec : ChangeSpec := { name := "fnExactUnparts", fn := fun _ => fun
  | [d] => { results := [.lit (.bool true)], args := [d] }
  | _ => none }
def fnExactUnpartsRow : OpenClaim := { program := "ythaoloacbbohlaa", sum := "fc8cdd636805064345d16e1a3683efd466894b88511b940f251c6e486bd052bd", func := "loop.example/g00088/laws.FnExactUnparts", spec := "fnExactUnparts", apart := false }
def FnExactUnpartsSaid : Prop := fnExactUnpartsRow.holds Try.pinned (OpenSpec.ofChange fnExactUnpartsSpec)

/-- ITS FALSE NEIGHBOUR: 'it returns false'. Refute it at one input. -/
def fnExactUnpartsWrong : ChangeSpec := { name := "fnExactUnparts", fn := fun _ => fun
  | [d] => { results := [.lit (.bool false)], args := [d] }
  | _ => none }
def FnExactUnpartsWrongFalsely : Prop := fnExactUnpartsRow.holds Try.pinned (OpenSpec.ofChange fnExactUnpartsWrong)

/-- 'laws.FnExactGfSolve': WHATEVER THE INPUT: true; the input reads as it did. -/
def fnExactGfSolveSpec : ChangeSpec := { name := "fnExactGfSolve", fn := fun _ => fun
  | [d1, d2] => { results := [.lit (.bool true)], args := [d1, d2] }
  | _ => none }
def fnExactGfSolveRow : OpenClaim := { program := "ythaoloacbbohlaa", sum := "fc8cdd636805064345d16e1a3683efd466894b88511b940f251c6e486bd052bd", func := "loop.example/g00088/laws.FnExactGfSolve", spec := "fnExactGfSolve", unfollowed := true, recurses := true, apart := false }
def FnExactGfSolveSaid : Prop := fnExactGfSolveRow.holds Try.pinned (OpenSpec.ofChange fnExactGfSolveSpec)

/-- ITS FALSE NEIGHBOUR: 'it returns false'. Refute it at one input. -/
def fnExactGfSolveWrong : ChangeSpec := { name := "fnExactGfSolve", fn := fun _ => fun
  | [d1, d2] => { results := [.lit (.bool false)], args := [d1, d2] }
  | _ => none }
def FnExactGfSolveWrongFalsely : Prop := fnExactGfSolveRow.holds Try.pinned (OpenSpec.ofChange fnExactGfSolveWrong)

/-- 'laws.FnExactEncode': WHATEVER THE INPUT: true; the input reads as it did. -/
def fnExactEncodeSpec : ChangeSpec := { name := "fnExactEncode", fn := fun _ => fun
  | [d1, d2, d3] => { results := [.lit (.bool true)], args := [d1, d2, d3] }
  | _ => none }
def fnExactEncodeRow : OpenClaim := { program := "ythaoloacbbohlaa", sum := "fc8cdd636805064345d16e1a3683efd466894b88511b940f251c6e486bd052bd", func := "loop.example/g00088/laws.FnExactEncode", spec := "fnExactEncode", apart := false }
def FnExactEncodeSaid : Prop := fnExactEncodeRow.holds Try.pinned (OpenSpec.ofChange fnExactEncodeSpec)

/-- ITS FALSE NEIGHBOUR: 'it returns false'. Refute it at one input. -/
def fnExactEncodeWrong : ChangeSpec := { name := "fnExactEncode", fn := fun _ => fun
  | [d1, d2, d3] => { results := [.lit (.bool false)], args := [d1, d2, d3] }
  | _ => none }
def FnExactEncodeWrongFalsely : Prop := fnExactEncodeRow.holds Try.pinned (OpenSpec.ofChange fnExactEncodeWrong)

/-- 'laws.FnSolved': WHATEVER THE INPUT: true; the input reads as it did. -/
def fnSolvedSpec : ChangeSpec := { name := "fnSolved", fn := fun _ => fun
  | [d] => { results := [.lit (.bool true)], args := [d] }
  | _ => none }
def fnSolvedRow : OpenClaim := { program := "ythaoloacbbohlaa", sum := "fc8cdd636805064345d16e1a3683efd466894b88511b940f251c6e486bd052bd", func := "loop.example/g00088/laws.FnSolved", spec := "fnSolved", unfollowed := true, recurses := true, apart := false }
def FnSolvedSaid : Prop := fnSolvedRow.holds Try.pinned (OpenSpec.ofChange fnSolvedSpec)

/-- ITS FALSE NEIGHBOUR: 'it returns false'. Refute it at one input. -/
def fnSolvedWrong : ChangeSpec := { name := "fnSolved", fn := fun _ => fun
  | [d] => { results := [.lit (.bool false)], args := [d] }
  | _ => none }
def FnSolvedWrongFalsely : Prop := fnSolvedRow.holds Try.pinned (OpenSpec.ofChange fnSolvedWrong)

/-- 'laws.FnExactRecheck': WHATEVER THE INPUT: true; the input reads as it did. -/
def fnExactRecheckSpec : ChangeSpec := { name := "fnExactRecheck", fn := fun _ => fun
  | [d1, d2, d3, d4, d5] => { results := [.lit (.bool true)], args := [d1, d2, d3, d4, d5] }
  | _ => none }
def fnExactRecheckRow : OpenClaim := { program := "ythaoloacbbohlaa", sum := "fc8cdd636805064345d16e1a3683efd466894b88511b940f251c6e486bd052bd", func := "loop.example/g00088/laws.FnExactRecheck", spec := "fnExactRecheck", apart := false }
def FnExactRecheckSaid : Prop := fnExactRecheckRow.holds Try.pinned (OpenSpec.ofChange fnExactRecheckSpec)

/-- ITS FALSE NEIGHBOUR: 'it returns false'. Refute it at one input. -/
def fnExactRecheckWrong : ChangeSpec := { name := "fnExactRecheck", fn := fun _ => fun
  | [d1, d2, d3, d4, d5] => { results := [.lit (.bool false)], args := [d1, d2, d3, d4, d5] }
  | _ => none }
def FnExactRecheckWrongFalsely : Prop := fnExactRecheckRow.holds Try.pinned (OpenSpec.ofChange fnExactRecheckWrong)

/-- 'laws.FnInterpolated': WHATEVER THE INPUT: true; the input reads as it did. -/
def fnInterpolatedSpec : ChangeSpec := { name := "fnInterpolated", fn := fun _ => fun
  | [d] => { results := [.lit (.bool true)], args := [d] }
  | _ => none }
def fnInterpolatedRow : OpenClaim := { program := "ythaoloacbbohlaa", sum := "fc8cdd636805064345d16e1a3683efd466894b88511b940f251c6e486bd052bd", func := "loop.example/g00088/laws.FnInterpolated", spec := "fnInterpolated", recurses := true, apart := false }
def FnInterpolatedSaid : Prop := fnInterpolatedRow.holds Try.pinned (OpenSpec.ofChange fnInterpolatedSpec)

/-- ITS FALSE NEIGHBOUR: 'it returns false'. Refute it at one input. -/
def fnInterpolatedWrong : ChangeSpec := { name := "fnInterpolated", fn := fun _ => fun
  | [d] => { results := [.lit (.bool false)], args := [d] }
  | _ => none }
def FnInterpolatedWrongFalsely : Prop := fnInterpolatedRow.holds Try.pinned (OpenSpec.ofChange fnInterpolatedWrong)

/-- 'laws.FnExactGfLagrange': WHATEVER THE INPUT: true; the input reads as it did. -/
def fnExactGfLagrangeSpec : ChangeSpec := { name := "fnExactGfLagrange", fn := fun _ => fun
  | [d1, d2, d3] => { results := [.lit (.bool true)], args := [d1, d2, d3] }
  | _ => none }
def fnExactGfLagrangeRow : OpenClaim := { program := "ythaoloacbbohlaa", sum := "fc8cdd636805064345d16e1a3683efd466894b88511b940f251c6e486bd052bd", func := "loop.example/g00088/laws.FnExactGfLagrange", spec := "fnExactGfLagrange", recurses := true, apart := false }
def FnExactGfLagrangeSaid : Prop := fnExactGfLagrangeRow.holds Try.pinned (OpenSpec.ofChange fnExactGfLagrangeSpec)

/-- ITS FALSE NEIGHBOUR: 'it returns false'. Refute it at one input. -/
def fnExactGfLagrangeWrong : ChangeSpec := { name := "fnExactGfLagrange", fn := fun _ => fun
  | [d1, d2, d3] => { results := [.lit (.bool false)], args := [d1, d2, d3] }
  | _ => none }
def FnExactGfLagrangeWrongFalsely : Prop := fnExactGfLagrangeRow.holds Try.pinned (OpenSpec.ofChange fnExactGfLagrangeWrong)

/-- 'laws.FnOutvoted': WHATEVER THE INPUT: true; the input reads as it did. -/
def fnOutvotedSpec : ChangeSpec := { name := "fnOutvoted", fn := fun _ => fun
  | [d] => { results := [.lit (.bool true)], args := [d] }
  | _ => none }
def fnOutvotedRow : OpenClaim := { program := "ythaoloacbbohlaa", sum := "fc8cdd636805064345d16e1a3683efd466894b88511b940f251c6e486bd052bd", func := "loop.example/g00088/laws.FnOutvoted", spec := "fnOutvoted", unfollowed := true, recurses := true, apart := false }
def FnOutvotedSaid : Prop := fnOutvotedRow.holds Try.pinned (OpenSpec.ofChange fnOutvotedSpec)

/-- ITS FALSE NEIGHBOUR: 'it returns false'. Refute it at one input. -/
def fnOutvotedWrong : ChangeSpec := { name := "fnOutvoted", fn := fun _ => fun
  | [d] => { results := [.lit (.bool false)], args := [d] }
  | _ => none }
def FnOutvotedWrongFalsely : Prop := fnOutvotedRow.holds Try.pinned (OpenSpec.ofChange fnOutvotedWrong)

/- THE SECOND FORM. 'bulk': how many values and letters a reading holds, each counted each time it is reached (what is shared counts as often as it is met; a slice's spare places count too). A statement '..UptoSaid' is the law's where the arguments, and the package variables that the reading takes, are together of bulk at most 1048576: NARROWER than '..Said'. Prove '..Said' where nothing that the law and all that it calls make is longer than what came in: it says more and counts as full. Else prove '..UptoSaid'. A law counts once. -/
mutual
def uptoBulk {H : Type} : DataW H → Nat
  | .lit (.string bytes) => bytes.length + 1
  | .lit _ => 1
  | .nil => 1
  | .ptr d => uptoBulk d + 1
  | .slice elems spare => uptoBulkAll elems + uptoBulkAll spare + 1
  | .agg parts => uptoBulkAll parts + 1
  | .iface _ d => uptoBulk d + 1
  | .map entries => uptoBulkEntries entries + 1
  | .held _ => 1
def uptoBulkAll {H : Type} : List (DataW H) → Nat
  | [] => 0
  | d :: r => uptoBulk d + uptoBulkAll r
def uptoBulkEntries {H : Type} : List (Lit × DataW H) → Nat
  | [] => 0
  | x :: r => uptoBulkEntry x + uptoBulkEntries r
def uptoBulkEntry {H : Type} : Lit × DataW H → Nat
  | (.string bytes, d) => bytes.length + uptoBulk d + 1
  | (_, d) => uptoBulk d + 1
 end
def uptoSmall : (H : Type) → List (DataW H) → Bool := fun _ ds => decide (uptoBulkAll ds ≤ 1048576)
def OpenSpec.upto (s : _root_.Go.ChangeSpec) : _root_.Go.OpenSpec := { _root_.Go.OpenSpec.ofChange s with cond := some uptoSmall }

/-- 'laws.FnExactParts', WHERE WHAT IT READS IS OF BULK AT MOST 1048576: true; the input reads as it did. -/
def fnExactPartsUptoRow : OpenClaim := { program := "ythaoloacbbohlaa", sum := "fc8cdd636805064345d16e1a3683efd466894b88511b940f251c6e486bd052bd", func := "loop.example/g00088/laws.FnExactParts", spec := "fnExactParts", apart := false, narrowed := true }
def FnExactPartsUptoSaid : Prop := fnExactPartsUptoRow.holds Try.pinned (OpenSpec.upto fnExactPartsSpec)

/-- 'laws.FnExactUnparts', WHERE WHAT IT READS IS OF BULK AT MOST 1048576: true; the input reads as it did. -/
def fnExactUnpartsUptoRow : OpenClaim := { program := "ythaoloacbbohlaa", sum := "fc8cdd636805064345d16e1a3683efd466894b88511b940f251c6e486bd052bd", func := "loop.example/g00088/laws.FnExactUnparts", spec := "fnExactUnparts", apart := false, narrowed := true }
def FnExactUnpartsUptoSaid : Prop := fnExactUnpartsUptoRow.holds Try.pinned (OpenSpec.upto fnExactUnpartsSpec)

/-- 'laws.FnExactGfSolve', WHERE WHAT IT READS IS OF BULK AT MOST 1048576: true; the input reads as it did. -/
def fnExactGfSolveUptoRow : OpenClaim := { program := "ythaoloacbbohlaa", sum := "fc8cdd636805064345d16e1a3683efd466894b88511b940f251c6e486bd052bd", func := "loop.example/g00088/laws.FnExactGfSolve", spec := "fnExactGfSolve", unfollowed := true, recurses := true, apart := false, narrowed := true }
def FnExactGfSolveUptoSaid : Prop := fnExactGfSolveUptoRow.holds Try.pinned (OpenSpec.upto fnExactGfSolveSpec)

/-- 'laws.FnExactEncode', WHERE WHAT IT READS IS OF BULK AT MOST 1048576: true; the input reads as it did. -/
def fnExactEncodeUptoRow : OpenClaim := { program := "ythaoloacbbohlaa", sum := "fc8cdd636805064345d16e1a3683efd466894b88511b940f251c6e486bd052bd", func := "loop.example/g00088/laws.FnExactEncode", spec := "fnExactEncode", apart := false, narrowed := true }
def FnExactEncodeUptoSaid : Prop := fnExactEncodeUptoRow.holds Try.pinned (OpenSpec.upto fnExactEncodeSpec)

/-- 'laws.FnSolved', WHERE WHAT IT READS IS OF BULK AT MOST 1048576: true; the input reads as it did. -/
def fnSolvedUptoRow : OpenClaim := { program := "ythaoloacbbohlaa", sum := "fc8cdd636805064345d16e1a3683efd466894b88511b940f251c6e486bd052bd", func := "loop.example/g00088/laws.FnSolved", spec := "fnSolved", unfollowed := true, recurses := true, apart := false, narrowed := true }
def FnSolvedUptoSaid : Prop := fnSolvedUptoRow.holds Try.pinned (OpenSpec.upto fnSolvedSpec)

/-- 'laws.FnExactRecheck', WHERE WHAT IT READS IS OF BULK AT MOST 1048576: true; the input reads as it did. -/
def fnExactRecheckUptoRow : OpenClaim := { program := "ythaoloacbbohlaa", sum := "fc8cdd636805064345d16e1a3683efd466894b88511b940f251c6e486bd052bd", func := "loop.example/g00088/laws.FnExactRecheck", spec := "fnExactRecheck", apart := false, narrowed := true }
def FnExactRecheckUptoSaid : Prop := fnExactRecheckUptoRow.holds Try.pinned (OpenSpec.upto fnExactRecheckSpec)

/-- 'laws.FnInterpolated', WHERE WHAT IT READS IS OF BULK AT MOST 1048576: true; the input reads as it did. -/
def fnInterpolatedUptoRow : OpenClaim := { program := "ythaoloacbbohlaa", sum := "fc8cdd636805064345d16e1a3683efd466894b88511b940f251c6e486bd052bd", func := "loop.example/g00088/laws.FnInterpolated", spec := "fnInterpolated", recurses := true, apart := false, narrowed := true }
def FnInterpolatedUptoSaid : Prop := fnInterpolatedUptoRow.holds Try.pinned (OpenSpec.upto fnInterpolatedSpec)

/-- 'laws.FnExactGfLagrange', WHERE WHAT IT READS IS OF BULK AT MOST 1048576: true; the input reads as it did. -/
def fnExactGfLagrangeUptoRow : OpenClaim := { program := "ythaoloacbbohlaa", sum := "fc8cdd636805064345d16e1a3683efd466894b88511b940f251c6e486bd052bd", func := "loop.example/g00088/laws.FnExactGfLagrange", spec := "fnExactGfLagrange", recurses := true, apart := false, narrowed := true }
def FnExactGfLagrangeUptoSaid : Prop := fnExactGfLagrangeUptoRow.holds Try.pinned (OpenSpec.upto fnExactGfLagrangeSpec)

/-- 'laws.FnOutvoted', WHERE WHAT IT READS IS OF BULK AT MOST 1048576: true; the input reads as it did. -/
def fnOutvotedUptoRow : OpenClaim := { program := "ythaoloacbbohlaa", sum := "fc8cdd636805064345d16e1a3683efd466894b88511b940f251c6e486bd052bd", func := "loop.example/g00088/laws.FnOutvoted", spec := "fnOutvoted", unfollowed := true, recurses := true, apart := false, narrowed := true }
def FnOutvotedUptoSaid : Prop := fnOutvotedUptoRow.holds Try.pinned (OpenSpec.upto fnOutvotedSpec)

end Rows
end Go.Proofs.Ythaoloacbbohlaa
