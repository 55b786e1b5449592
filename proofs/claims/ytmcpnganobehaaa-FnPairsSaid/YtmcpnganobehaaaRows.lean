/-
  No cell of these rows narrows 'for every input' (looked for: loops, veiled, ifaces, maps, wideKeys, modest, calm, conditions, laid).
  DERIVED. THE GIVEN ROWS OF THIS SEAT. 12 by the template 'for every input the law returns true; each argument reads behind the call as it read before'; 0 by the template 'total and deterministic' (their statements: YtmcpnganobehaaaTotals.lean).
  GIVEN WITH THE SEED: the statements are not yours to turn. If you find one false, say at which input.
  Laid BY PROGRAM, IN A SANDBOX (cutbox-rows.mjs): the forced cells as the released guide's own fill.sh prints them over the translation 467d73372ddf6dff… (all of the seat's roots in one cut). By AI agents, Wed Nov 11 2026. No macro, syntax, notation, axiom, sorry.
-/
import Derived.Test.YtmcpnganobehaaaChecked
import GoSem.Claim
import GoSem.ClaimJoined
import GoSem.ClaimMapViews
import Derived.JoinedTies
import Derived.KernelRfl
namespace Go.Proofs.Ytmcpnganobehaaa
/- THE CELL 'sum', in the pinned program and in every row, IS THE sha256 OF THE DUMP (.gsa) THAT YtmcpnganobehaaaProg.lean LOADS. Nothing in Lean hashes anything: it is a label: what it is worth is what the hold of that sum in a sandbox is worth. -/
noncomputable def Try.pinned : Pinned := { name := "ytmcpnganobehaaa", sum := "467d73372ddf6dfff04d14d169bdb16b03f6e16d9f9a86ae15e4fc04a1b3b4a9", checked := Try.checked }
namespace Rows
def none {H : Type} : Left H := { results := [], args := [] }

/-- 'laws.FnExactRounds': WHATEVER THE INPUT: true; the input reads as it did. -/
def fnExactRoundsSpec : ChangeSpec := { name := "fnExactRounds", fn := fun _ => fun
  | [d1, d2] => { results := [.lit (.bool true)], args := [d1, d2] }
  | _ => none }
def fnExactRoundsRow : OpenClaim := { program := "ytmcpnganobehaaa", sum := "467d73372ddf6dfff04d14d169bdb16b03f6e16d9f9a86ae15e4fc04a1b3b4a9", func := "loop.example/g00088/laws.FnExactRounds", spec := "fnExactRounds", apart := false }
def FnExactRoundsSaid : Prop := fnExactRoundsRow.holds Try.pinned (OpenSpec.ofChange fnExactRoundsSpec)

/-- ITS FALSE NEIGHBOUR: 'it returns false'. Refute it at one input. -/
def fnExactRoundsWrong : ChangeSpec := { name := "fnExactRounds", fn := fun _ => fun
  | [d1, d2] => { results := [.lit (.bool false)], args := [d1, d2] }
  | _ => none }
def FnExactRoundsWrongFalsely : Prop := fnExactRoundsRow.holds Try.pinned (OpenSpec.ofChange fnExactRoundsWrong)

/-- 'laws.FnExactDigest': WHATEVER THE INPUT: true; the input reads as it did. -/
def fnExactDigestSpec : ChangeSpec := { name := "fnExactDigest", fn := fun _ => fun
  | [d1, d2] => { results := [.lit (.bool true)], args := [d1, d2] }
  | _ => none }
def fnExactDigestRow : OpenClaim := { program := "ytmcpnganobehaaa", sum := "467d73372ddf6dfff04d14d169bdb16b03f6e16d9f9a86ae15e4fc04a1b3b4a9", func := "loop.example/g00088/laws.FnExactDigest", spec := "fnExactDigest", apart := false }
def FnExactDigestSaid : Prop := fnExactDigestRow.holds Try.pinned (OpenSpec.ofChange fnExactDigestSpec)

/-- ITS FALSE NEIGHBOUR: 'it returns false'. Refute it at one input. -/
def fnExactDigestWrong : ChangeSpec := { name := "fnExactDigest", fn := fun _ => fun
  | [d1, d2] => { results := [.lit (.bool false)], args := [d1, d2] }
  | _ => none }
def FnExactDigestWrongFalsely : Prop := fnExactDigestRow.holds Try.pinned (OpenSpec.ofChange fnExactDigestWrong)

/-- 'laws.FnExactLeafOf': WHATEVER THE INPUT: true; the input reads as it did. -/
def fnExactLeafOfSpec : ChangeSpec := { name := "fnExactLeafOf", fn := fun _ => fun
  | [d1, d2] => { results := [.lit (.bool true)], args := [d1, d2] }
  | _ => none }
def fnExactLeafOfRow : OpenClaim := { program := "ytmcpnganobehaaa", sum := "467d73372ddf6dfff04d14d169bdb16b03f6e16d9f9a86ae15e4fc04a1b3b4a9", func := "loop.example/g00088/laws.FnExactLeafOf", spec := "fnExactLeafOf", apart := false }
def FnExactLeafOfSaid : Prop := fnExactLeafOfRow.holds Try.pinned (OpenSpec.ofChange fnExactLeafOfSpec)

/-- ITS FALSE NEIGHBOUR: 'it returns false'. Refute it at one input. -/
def fnExactLeafOfWrong : ChangeSpec := { name := "fnExactLeafOf", fn := fun _ => fun
  | [d1, d2] => { results := [.lit (.bool false)], args := [d1, d2] }
  | _ => none }
def FnExactLeafOfWrongFalsely : Prop := fnExactLeafOfRow.holds Try.pinned (OpenSpec.ofChange fnExactLeafOfWrong)

/-- 'laws.FnExactSqueeze': WHATEVER THE INPUT: true; the input reads as it did. -/
def fnExactSqueezeSpec : ChangeSpec := { name := "fnExactSqueeze", fn := fun _ => fun
  | [d1, d2, d3] => { results := [.lit (.bool true)], args := [d1, d2, d3] }
  | _ => none }
def fnExactSqueezeRow : OpenClaim := { program := "ytmcpnganobehaaa", sum := "467d73372ddf6dfff04d14d169bdb16b03f6e16d9f9a86ae15e4fc04a1b3b4a9", func := "loop.example/g00088/laws.FnExactSqueeze", spec := "fnExactSqueeze", apart := false }
def FnExactSqueezeSaid : Prop := fnExactSqueezeRow.holds Try.pinned (OpenSpec.ofChange fnExactSqueezeSpec)

/-- ITS FALSE NEIGHBOUR: 'it returns false'. Refute it at one input. -/
def fnExactSqueezeWrong : ChangeSpec := { name := "fnExactSqueeze", fn := fun _ => fun
  | [d1, d2, d3] => { results := [.lit (.bool false)], args := [d1, d2, d3] }
  | _ => none }
def FnExactSqueezeWrongFalsely : Prop := fnExactSqueezeRow.holds Try.pinned (OpenSpec.ofChange fnExactSqueezeWrong)

/-- 'laws.FnExactCollides': WHATEVER THE INPUT: true; the input reads as it did. -/
def fnExactCollidesSpec : ChangeSpec := { name := "fnExactCollides", fn := fun _ => fun
  | [d1, d2] => { results := [.lit (.bool true)], args := [d1, d2] }
  | _ => none }
def fnExactCollidesRow : OpenClaim := { program := "ytmcpnganobehaaa", sum := "467d73372ddf6dfff04d14d169bdb16b03f6e16d9f9a86ae15e4fc04a1b3b4a9", func := "loop.example/g00088/laws.FnExactCollides", spec := "fnExactCollides", apart := false }
def FnExactCollidesSaid : Prop := fnExactCollidesRow.holds Try.pinned (OpenSpec.ofChange fnExactCollidesSpec)

/-- ITS FALSE NEIGHBOUR: 'it returns false'. Refute it at one input. -/
def fnExactCollidesWrong : ChangeSpec := { name := "fnExactCollides", fn := fun _ => fun
  | [d1, d2] => { results := [.lit (.bool false)], args := [d1, d2] }
  | _ => none }
def FnExactCollidesWrongFalsely : Prop := fnExactCollidesRow.holds Try.pinned (OpenSpec.ofChange fnExactCollidesWrong)

/-- 'laws.FnPairs': WHATEVER THE INPUT: true; the input reads as it did. -/
def fnPairsSpec : ChangeSpec := { name := "fnPairs", fn := fun _ => fun
  | [d] => { results := [.lit (.bool true)], args := [d] }
  | _ => none }
def fnPairsRow : OpenClaim := { program := "ytmcpnganobehaaa", sum := "467d73372ddf6dfff04d14d169bdb16b03f6e16d9f9a86ae15e4fc04a1b3b4a9", func := "loop.example/g00088/laws.FnPairs", spec := "fnPairs", apart := false }
def FnPairsSaid : Prop := fnPairsRow.holds Try.pinned (OpenSpec.ofChange fnPairsSpec)

/-- ITS FALSE NEIGHBOUR: 'it returns false'. Refute it at one input. -/
def fnPairsWrong : ChangeSpec := { name := "fnPairs", fn := fun _ => fun
  | [d] => { results := [.lit (.bool false)], args := [d] }
  | _ => none }
def FnPairsWrongFalsely : Prop := fnPairsRow.holds Try.pinned (OpenSpec.ofChange fnPairsWrong)

/-- 'laws.FnSqueezed': WHATEVER THE INPUT: true; the input reads as it did. -/
def fnSqueezedSpec : ChangeSpec := { name := "fnSqueezed", fn := fun _ => fun
  | [d] => { results := [.lit (.bool true)], args := [d] }
  | _ => none }
def fnSqueezedRow : OpenClaim := { program := "ytmcpnganobehaaa", sum := "467d73372ddf6dfff04d14d169bdb16b03f6e16d9f9a86ae15e4fc04a1b3b4a9", func := "loop.example/g00088/laws.FnSqueezed", spec := "fnSqueezed", apart := false }
def FnSqueezedSaid : Prop := fnSqueezedRow.holds Try.pinned (OpenSpec.ofChange fnSqueezedSpec)

/-- ITS FALSE NEIGHBOUR: 'it returns false'. Refute it at one input. -/
def fnSqueezedWrong : ChangeSpec := { name := "fnSqueezed", fn := fun _ => fun
  | [d] => { results := [.lit (.bool false)], args := [d] }
  | _ => none }
def FnSqueezedWrongFalsely : Prop := fnSqueezedRow.holds Try.pinned (OpenSpec.ofChange fnSqueezedWrong)

/-- 'laws.FnExactNodeOf': WHATEVER THE INPUT: true; the input reads as it did. -/
def fnExactNodeOfSpec : ChangeSpec := { name := "fnExactNodeOf", fn := fun _ => fun
  | [d1, d2, d3] => { results := [.lit (.bool true)], args := [d1, d2, d3] }
  | _ => none }
def fnExactNodeOfRow : OpenClaim := { program := "ytmcpnganobehaaa", sum := "467d73372ddf6dfff04d14d169bdb16b03f6e16d9f9a86ae15e4fc04a1b3b4a9", func := "loop.example/g00088/laws.FnExactNodeOf", spec := "fnExactNodeOf", apart := false }
def FnExactNodeOfSaid : Prop := fnExactNodeOfRow.holds Try.pinned (OpenSpec.ofChange fnExactNodeOfSpec)

/-- ITS FALSE NEIGHBOUR: 'it returns false'. Refute it at one input. -/
def fnExactNodeOfWrong : ChangeSpec := { name := "fnExactNodeOf", fn := fun _ => fun
  | [d1, d2, d3] => { results := [.lit (.bool false)], args := [d1, d2, d3] }
  | _ => none }
def FnExactNodeOfWrongFalsely : Prop := fnExactNodeOfRow.holds Try.pinned (OpenSpec.ofChange fnExactNodeOfWrong)

/-- 'laws.FnExactFromData': WHATEVER THE INPUT: true; the input reads as it did. -/
def fnExactFromDataSpec : ChangeSpec := { name := "fnExactFromData", fn := fun _ => fun
  | [d1, d2, d3] => { results := [.lit (.bool true)], args := [d1, d2, d3] }
  | _ => none }
def fnExactFromDataRow : OpenClaim := { program := "ytmcpnganobehaaa", sum := "467d73372ddf6dfff04d14d169bdb16b03f6e16d9f9a86ae15e4fc04a1b3b4a9", func := "loop.example/g00088/laws.FnExactFromData", spec := "fnExactFromData", apart := false }
def FnExactFromDataSaid : Prop := fnExactFromDataRow.holds Try.pinned (OpenSpec.ofChange fnExactFromDataSpec)

/-- ITS FALSE NEIGHBOUR: 'it returns false'. Refute it at one input. -/
def fnExactFromDataWrong : ChangeSpec := { name := "fnExactFromData", fn := fun _ => fun
  | [d1, d2, d3] => { results := [.lit (.bool false)], args := [d1, d2, d3] }
  | _ => none }
def FnExactFromDataWrongFalsely : Prop := fnExactFromDataRow.holds Try.pinned (OpenSpec.ofChange fnExactFromDataWrong)

/-- 'laws.FnExactFindPair': WHATEVER THE INPUT: true; the input reads as it did. -/
def fnExactFindPairSpec : ChangeSpec := { name := "fnExactFindPair", fn := fun _ => fun
  | [d1, d2] => { results := [.lit (.bool true)], args := [d1, d2] }
  | _ => none }
def fnExactFindPairRow : OpenClaim := { program := "ytmcpnganobehaaa", sum := "467d73372ddf6dfff04d14d169bdb16b03f6e16d9f9a86ae15e4fc04a1b3b4a9", func := "loop.example/g00088/laws.FnExactFindPair", spec := "fnExactFindPair", apart := false }
def FnExactFindPairSaid : Prop := fnExactFindPairRow.holds Try.pinned (OpenSpec.ofChange fnExactFindPairSpec)

/-- ITS FALSE NEIGHBOUR: 'it returns false'. Refute it at one input. -/
def fnExactFindPairWrong : ChangeSpec := { name := "fnExactFindPair", fn := fun _ => fun
  | [d1, d2] => { results := [.lit (.bool false)], args := [d1, d2] }
  | _ => none }
def FnExactFindPairWrongFalsely : Prop := fnExactFindPairRow.holds Try.pinned (OpenSpec.ofChange fnExactFindPairWrong)

/-- 'laws.FnDigests': WHATEVER THE INPUT: true; the input reads as it did. -/
def fnDigestsSpec : ChangeSpec := { name := "fnDigests", fn := fun _ => fun
  | [d] => { results := [.lit (.bool true)], args := [d] }
  | _ => none }
def fnDigestsRow : OpenClaim := { program := "ytmcpnganobehaaa", sum := "467d73372ddf6dfff04d14d169bdb16b03f6e16d9f9a86ae15e4fc04a1b3b4a9", func := "loop.example/g00088/laws.FnDigests", spec := "fnDigests", apart := false }
def FnDigestsSaid : Prop := fnDigestsRow.holds Try.pinned (OpenSpec.ofChange fnDigestsSpec)

/-- ITS FALSE NEIGHBOUR: 'it returns false'. Refute it at one input. -/
def fnDigestsWrong : ChangeSpec := { name := "fnDigests", fn := fun _ => fun
  | [d] => { results := [.lit (.bool false)], args := [d] }
  | _ => none }
def FnDigestsWrongFalsely : Prop := fnDigestsRow.holds Try.pinned (OpenSpec.ofChange fnDigestsWrong)

/-- 'laws.FnExactRootFrom': WHATEVER THE INPUT: true; the input reads as it did. -/
def fnExactRootFromSpec : ChangeSpec := { name := "fnExactRootFrom", fn := fun _ => fun
  | [d1, d2, d3, d4, d5] => { results := [.lit (.bool true)], args := [d1, d2, d3, d4, d5] }
  | _ => none }
def fnExactRootFromRow : OpenClaim := { program := "ytmcpnganobehaaa", sum := "467d73372ddf6dfff04d14d169bdb16b03f6e16d9f9a86ae15e4fc04a1b3b4a9", func := "loop.example/g00088/laws.FnExactRootFrom", spec := "fnExactRootFrom", unfollowed := true, recurses := true, apart := false }
def FnExactRootFromSaid : Prop := fnExactRootFromRow.holds Try.pinned (OpenSpec.ofChange fnExactRootFromSpec)

/-- ITS FALSE NEIGHBOUR: 'it returns false'. Refute it at one input. -/
def fnExactRootFromWrong : ChangeSpec := { name := "fnExactRootFrom", fn := fun _ => fun
  | [d1, d2, d3, d4, d5] => { results := [.lit (.bool false)], args := [d1, d2, d3, d4, d5] }
  | _ => none }
def FnExactRootFromWrongFalsely : Prop := fnExactRootFromRow.holds Try.pinned (OpenSpec.ofChange fnExactRootFromWrong)

/- THE SECOND FORM. 'bulk': how many values and letters a reading holds, each counted each time it is reached (what is shared counts as often as it is met; a slice's spare places count too). A statement '..UptoSaid' is the law's where the arguments, and the package variables that the reading takes, are together of bulk at most 1048576: NARROWER than '..Said'. Prove '..Said' where nothing that the law and all that it calls make is longer than what came in: it says more and counts as full. Else prove '..UptoSaid'. A law counts once. -/
mutual
def uptoBulk {H : Type} : DataW H → Nat
  | .lit (.string bytes) => bytes.length + 1
  | .lit _ => 1
  | .nil => 1
  | .ptr d => uptoBulk d + 1
  | .slice elems spare => uptoBulkAll elems + uptoBulkAll spare + 1
  | .agg parts => uptoBulkAll parts + 1
  | .iface _ d => uptoBulk d + 1
  | .map entries => uptoBulkEntries entries + 1
  | .held _ => 1
def uptoBulkAll {H : Type} : List (DataW H) → Nat
  | [] => 0
  | d :: r => uptoBulk d + uptoBulkAll r
def uptoBulkEntries {H : Type} : List (Lit × DataW H) → Nat
  | [] => 0
  | x :: r => uptoBulkEntry x + uptoBulkEntries r
def uptoBulkEntry {H : Type} : Lit × DataW H → Nat
  | (.string bytes, d) => bytes.length + uptoBulk d + 1
  | (_, d) => uptoBulk d + 1
 end
def uptoSmall : (H : Type) → List (DataW H) → Bool := fun _ ds => decide (uptoBulkAll ds ≤ 1048576)
def OpenSpec.upto (s : _root_.Go.ChangeSpec) : _root_.Go.OpenSpec := { _root_.Go.OpenSpec.ofChange s with cond := some uptoSmall }

/-- 'laws.FnExactRounds', WHERE WHAT IT READS IS OF BULK AT MOST 1048576: true; the input reads as it did. -/
def fnExactRoundsUptoRow : OpenClaim := { program := "ytmcpnganobehaaa", sum := "467d73372ddf6dfff04d14d169bdb16b03f6e16d9f9a86ae15e4fc04a1b3b4a9", func := "loop.example/g00088/laws.FnExactRounds", spec := "fnExactRounds", apart := false, narrowed := true }
def FnExactRoundsUptoSaid : Prop := fnExactRoundsUptoRow.holds Try.pinned (OpenSpec.upto fnExactRoundsSpec)

/-- 'laws.FnExactDigest', WHERE WHAT IT READS IS OF BULK AT MOST 1048576: true; the input reads as it did. -/
def fnExactDigestUptoRow : OpenClaim := { program := "ytmcpnganobehaaa", sum := "467d73372ddf6dfff04d14d169bdb16b03f6e16d9f9a86ae15e4fc04a1b3b4a9", func := "loop.example/g00088/laws.FnExactDigest", spec := "fnExactDigest", apart := false, narrowed := true }
def FnExactDigestUptoSaid : Prop := fnExactDigestUptoRow.holds Try.pinned (OpenSpec.upto fnExactDigestSpec)

/-- 'laws.FnExactLeafOf', WHERE WHAT IT READS IS OF BULK AT MOST 1048576: true; the input reads as it did. -/
def fnExactLeafOfUptoRow : OpenClaim := { program := "ytmcpnganobehaaa", sum := "467d73372ddf6dfff04d14d169bdb16b03f6e16d9f9a86ae15e4fc04a1b3b4a9", func := "loop.example/g00088/laws.FnExactLeafOf", spec := "fnExactLeafOf", apart := false, narrowed := true }
def FnExactLeafOfUptoSaid : Prop := fnExactLeafOfUptoRow.holds Try.pinned (OpenSpec.upto fnExactLeafOfSpec)

/-- 'laws.FnExactSqueeze', WHERE WHAT IT READS IS OF BULK AT MOST 1048576: true; the input reads as it did. -/
def fnExactSqueezeUptoRow : OpenClaim := { program := "ytmcpnganobehaaa", sum := "467d73372ddf6dfff04d14d169bdb16b03f6e16d9f9a86ae15e4fc04a1b3b4a9", func := "loop.example/g00088/laws.FnExactSqueeze", spec := "fnExactSqueeze", apart := false, narrowed := true }
def FnExactSqueezeUptoSaid : Prop := fnExactSqueezeUptoRow.holds Try.pinned (OpenSpec.upto fnExactSqueezeSpec)

/-- 'laws.FnExactCollides', WHERE WHAT IT READS IS OF BULK AT MOST 1048576: true; the input reads as it did. -/
def fnExactCollidesUptoRow : OpenClaim := { program := "ytmcpnganobehaaa", sum := "467d73372ddf6dfff04d14d169bdb16b03f6e16d9f9a86ae15e4fc04a1b3b4a9", func := "loop.example/g00088/laws.FnExactCollides", spec := "fnExactCollides", apart := false, narrowed := true }
def FnExactCollidesUptoSaid : Prop := fnExactCollidesUptoRow.holds Try.pinned (OpenSpec.upto fnExactCollidesSpec)

/-- 'laws.FnPairs', WHERE WHAT IT READS IS OF BULK AT MOST 1048576: true; the input reads as it did. -/
def fnPairsUptoRow : OpenClaim := { program := "ytmcpnganobehaaa", sum := "467d73372ddf6dfff04d14d169bdb16b03f6e16d9f9a86ae15e4fc04a1b3b4a9", func := "loop.example/g00088/laws.FnPairs", spec := "fnPairs", apart := false, narrowed := true }
def FnPairsUptoSaid : Prop := fnPairsUptoRow.holds Try.pinned (OpenSpec.upto fnPairsSpec)

/-- 'laws.FnSqueezed', WHERE WHAT IT READS IS OF BULK AT MOST 1048576: true; the input reads as it did. -/
def fnSqueezedUptoRow : OpenClaim := { program := "ytmcpnganobehaaa", sum := "467d73372ddf6dfff04d14d169bdb16b03f6e16d9f9a86ae15e4fc04a1b3b4a9", func := "loop.example/g00088/laws.FnSqueezed", spec := "fnSqueezed", apart := false, narrowed := true }
def FnSqueezedUptoSaid : Prop := fnSqueezedUptoRow.holds Try.pinned (OpenSpec.upto fnSqueezedSpec)

/-- 'laws.FnExactNodeOf', WHERE WHAT IT READS IS OF BULK AT MOST 1048576: true; the input reads as it did. -/
def fnExactNodeOfUptoRow : OpenClaim := { program := "ytmcpnganobehaaa", sum := "467d73372ddf6dfff04d14d169bdb16b03f6e16d9f9a86ae15e4fc04a1b3b4a9", func := "loop.example/g00088/laws.FnExactNodeOf", spec := "fnExactNodeOf", apart := false, narrowed := true }
def FnExactNodeOfUptoSaid : Prop := fnExactNodeOfUptoRow.holds Try.pinned (OpenSpec.upto fnExactNodeOfSpec)

/-- 'laws.FnExactFromData', WHERE WHAT IT READS IS OF BULK AT MOST 1048576: true; the input reads as it did. -/
def fnExactFromDataUptoRow : OpenClaim := { program := "ytmcpnganobehaaa", sum := "467d73372ddf6dfff04d14d169bdb16b03f6e16d9f9a86ae15e4fc04a1b3b4a9", func := "loop.example/g00088/laws.FnExactFromData", spec := "fnExactFromData", apart := false, narrowed := true }
def FnExactFromDataUptoSaid : Prop := fnExactFromDataUptoRow.holds Try.pinned (OpenSpec.upto fnExactFromDataSpec)

/-- 'laws.FnExactFindPair', WHERE WHAT IT READS IS OF BULK AT MOST 1048576: true; the input reads as it did. -/
def fnExactFindPairUptoRow : OpenClaim := { program := "ytmcpnganobehaaa", sum := "467d73372ddf6dfff04d14d169bdb16b03f6e16d9f9a86ae15e4fc04a1b3b4a9", func := "loop.example/g00088/laws.FnExactFindPair", spec := "fnExactFindPair", apart := false, narrowed := true }
def FnExactFindPairUptoSaid : Prop := fnExactFindPairUptoRow.holds Try.pinned (OpenSpec.upto fnExactFindPairSpec)

/-- 'laws.FnDigests', WHERE WHAT IT READS IS OF BULK AT MOST 1048576: true; the input reads as it did. -/
def fnDigestsUptoRow : OpenClaim := { program := "ytmcpnganobehaaa", sum := "467d73372ddf6dfff04d14d169bdb16b03f6e16d9f9a86ae15e4fc04a1b3b4a9", func := "loop.example/g00088/laws.FnDigests", spec := "fnDigests", apart := false, narrowed := true }
def FnDigestsUptoSaid : Prop := fnDigestsUptoRow.holds Try.pinned (OpenSpec.upto fnDigestsSpec)

/-- 'laws.FnExactRootFrom', WHERE WHAT IT READS IS OF BULK AT MOST 1048576: true; the input reads as it did. -/
def fnExactRootFromUptoRow : OpenClaim := { program := "ytmcpnganobehaaa", sum := "467d73372ddf6dfff04d14d169bdb16b03f6e16d9f9a86ae15e4fc04a1b3b4a9", func := "loop.example/g00088/laws.FnExactRootFrom", spec := "fnExactRootFrom", unfollowed := true, recurses := true, apart := false, narrowed := true }
def FnExactRootFromUptoSaid : Prop := fnExactRootFromUptoRow.holds Try.pinned (OpenSpec.upto fnExactRootFromSpec)

end Rows
end Go.Proofs.Ytmcpnganobehaaa
