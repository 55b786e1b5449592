/-
  No cell of these rows narrows 'for every input' (looked for: loops, veiled, ifaces, maps, wideKeys, modest, calm, conditions, laid).
  DERIVED. THE GIVEN ROWS OF THIS SEAT. 13 by the template 'for every input the law returns true; each argument reads behind the call as it read before'; 0 by the template 'total and deterministic' (their statements: YthpijfnhlehnkaaTotals.lean).
  GIVEN WITH THE SEED: the statements are not yours to turn. If you find one false, say at which input.
  Laid BY PROGRAM, IN A SANDBOX (cutbox-rows.mjs): the forced cells as the released guide's own fill.sh prints them over the translation a7313323e15c06e9… (all of the seat's roots in one cut). By AI agents, Wed Nov 11 2026. No macro, syntax, notation, axiom, sorry.
-/
import Derived.Test.YthpijfnhlehnkaaChecked
import GoSem.Claim
import GoSem.ClaimJoined
import GoSem.ClaimMapViews
import Derived.JoinedTies
import Derived.KernelRfl
namespace Go.Proofs.Ythpijfnhlehnkaa
/- THE CELL 'sum', in the pinned program and in every row, IS THE sha256 OF THE DUMP (.gsa) THAT YthpijfnhlehnkaaProg.lean LOADS. Nothing in Lean hashes anything: it is a label: what it is worth is what the hold of that sum in a sandbox is worth. -/
noncomputable def Try.pinned : Pinned := { name := "ythpijfnhlehnkaa", sum := "a7313323e15c06e9a03578ec16c075c89604c522851c4809d9ec46a69ae46946", checked := Try.checked }
namespace Rows
def none {H : Type} : Left H := { results := [], args := [] }

/-- 'laws.FnExactConstants': WHATEVER THE INPUT: true; the input reads as it did. -/
def fnExactConstantsSpec : ChangeSpec := { name := "fnExactConstants", fn := fun _ => fun
  | [] => { results := [.lit (.bool true)], args := [] }
  | _ => none }
def fnExactConstantsRow : OpenClaim := { program := "ythpijfnhlehnkaa", sum := "a7313323e15c06e9a03578ec16c075c89604c522851c4809d9ec46a69ae46946", func := "loop.example/g00088/laws.FnExactConstants", spec := "fnExactConstants", apart := false }
def FnExactConstantsSaid : Prop := fnExactConstantsRow.holds Try.pinned (OpenSpec.ofChange fnExactConstantsSpec)

/-- ITS FALSE NEIGHBOUR: 'it returns false'. Refute it at one input. -/
def fnExactConstantsWrong : ChangeSpec := { name := "fnExactConstants", fn := fun _ => fun
  | [] => { results := [.lit (.bool false)], args := [] }
  | _ => none }
def FnExactConstantsWrongFalsely : Prop := fnExactConstantsRow.holds Try.pinned (OpenSpec.ofChange fnExactConstantsWrong)

/-- 'laws.FnExactLong': WHATEVER THE INPUT: true; the input reads as it did. -/
def fnExactLongSpec : ChangeSpec := { name := "fnExactLong", fn := fun _ => fun
  | [d1, d2] => { results := [.lit (.bool true)], args := [d1, d2] }
  | _ => none }
def fnExactLongRow : OpenClaim := { program := "ythpijfnhlehnkaa", sum := "a7313323e15c06e9a03578ec16c075c89604c522851c4809d9ec46a69ae46946", func := "loop.example/g00088/laws.FnExactLong", spec := "fnExactLong", apart := false }
def FnExactLongSaid : Prop := fnExactLongRow.holds Try.pinned (OpenSpec.ofChange fnExactLongSpec)

/-- ITS FALSE NEIGHBOUR: 'it returns false'. Refute it at one input. -/
def fnExactLongWrong : ChangeSpec := { name := "fnExactLong", fn := fun _ => fun
  | [d1, d2] => { results := [.lit (.bool false)], args := [d1, d2] }
  | _ => none }
def FnExactLongWrongFalsely : Prop := fnExactLongRow.holds Try.pinned (OpenSpec.ofChange fnExactLongWrong)

/-- 'laws.FnExactGfMul': WHATEVER THE INPUT: true; the input reads as it did. -/
def fnExactGfMulSpec : ChangeSpec := { name := "fnExactGfMul", fn := fun _ => fun
  | [d1, d2] => { results := [.lit (.bool true)], args := [d1, d2] }
  | _ => none }
def fnExactGfMulRow : OpenClaim := { program := "ythpijfnhlehnkaa", sum := "a7313323e15c06e9a03578ec16c075c89604c522851c4809d9ec46a69ae46946", func := "loop.example/g00088/laws.FnExactGfMul", spec := "fnExactGfMul", apart := false }
def FnExactGfMulSaid : Prop := fnExactGfMulRow.holds Try.pinned (OpenSpec.ofChange fnExactGfMulSpec)

/-- ITS FALSE NEIGHBOUR: 'it returns false'. Refute it at one input. -/
def fnExactGfMulWrong : ChangeSpec := { name := "fnExactGfMul", fn := fun _ => fun
  | [d1, d2] => { results := [.lit (.bool false)], args := [d1, d2] }
  | _ => none }
def FnExactGfMulWrongFalsely : Prop := fnExactGfMulRow.holds Try.pinned (OpenSpec.ofChange fnExactGfMulWrong)

/-- 'laws.FnExactEight': WHATEVER THE INPUT: true; the input reads as it did. -/
def fnExactEightSpec : ChangeSpec := { name := "fnExactEight", fn := fun _ => fun
  | [d] => { results := [.lit (.bool true)], args := [d] }
  | _ => none }
def fnExactEightRow : OpenClaim := { program := "ythpijfnhlehnkaa", sum := "a7313323e15c06e9a03578ec16c075c89604c522851c4809d9ec46a69ae46946", func := "loop.example/g00088/laws.FnExactEight", spec := "fnExactEight", apart := false }
def FnExactEightSaid : Prop := fnExactEightRow.holds Try.pinned (OpenSpec.ofChange fnExactEightSpec)

/-- ITS FALSE NEIGHBOUR: 'it returns false'. Refute it at one input. -/
def fnExactEightWrong : ChangeSpec := { name := "fnExactEight", fn := fun _ => fun
  | [d] => { results := [.lit (.bool false)], args := [d] }
  | _ => none }
def FnExactEightWrongFalsely : Prop := fnExactEightRow.holds Try.pinned (OpenSpec.ofChange fnExactEightWrong)

/-- 'laws.FnExactGfAt': WHATEVER THE INPUT: true; the input reads as it did. -/
def fnExactGfAtSpec : ChangeSpec := { name := "fnExactGfAt", fn := fun _ => fun
  | [d1, d2] => { results := [.lit (.bool true)], args := [d1, d2] }
  | _ => none }
def fnExactGfAtRow : OpenClaim := { program := "ythpijfnhlehnkaa", sum := "a7313323e15c06e9a03578ec16c075c89604c522851c4809d9ec46a69ae46946", func := "loop.example/g00088/laws.FnExactGfAt", spec := "fnExactGfAt", apart := false }
def FnExactGfAtSaid : Prop := fnExactGfAtRow.holds Try.pinned (OpenSpec.ofChange fnExactGfAtSpec)

/-- ITS FALSE NEIGHBOUR: 'it returns false'. Refute it at one input. -/
def fnExactGfAtWrong : ChangeSpec := { name := "fnExactGfAt", fn := fun _ => fun
  | [d1, d2] => { results := [.lit (.bool false)], args := [d1, d2] }
  | _ => none }
def FnExactGfAtWrongFalsely : Prop := fnExactGfAtRow.holds Try.pinned (OpenSpec.ofChange fnExactGfAtWrong)

/-- 'laws.FnExactGfPow': WHATEVER THE INPUT: true; the input reads as it did. -/
def fnExactGfPowSpec : ChangeSpec := { name := "fnExactGfPow", fn := fun _ => fun
  | [d1, d2] => { results := [.lit (.bool true)], args := [d1, d2] }
  | _ => none }
def fnExactGfPowRow : OpenClaim := { program := "ythpijfnhlehnkaa", sum := "a7313323e15c06e9a03578ec16c075c89604c522851c4809d9ec46a69ae46946", func := "loop.example/g00088/laws.FnExactGfPow", spec := "fnExactGfPow", apart := false }
def FnExactGfPowSaid : Prop := fnExactGfPowRow.holds Try.pinned (OpenSpec.ofChange fnExactGfPowSpec)

/-- ITS FALSE NEIGHBOUR: 'it returns false'. Refute it at one input. -/
def fnExactGfPowWrong : ChangeSpec := { name := "fnExactGfPow", fn := fun _ => fun
  | [d1, d2] => { results := [.lit (.bool false)], args := [d1, d2] }
  | _ => none }
def FnExactGfPowWrongFalsely : Prop := fnExactGfPowRow.holds Try.pinned (OpenSpec.ofChange fnExactGfPowWrong)

/-- 'laws.FnExactGfLog': WHATEVER THE INPUT: true; the input reads as it did. -/
def fnExactGfLogSpec : ChangeSpec := { name := "fnExactGfLog", fn := fun _ => fun
  | [d] => { results := [.lit (.bool true)], args := [d] }
  | _ => none }
def fnExactGfLogRow : OpenClaim := { program := "ythpijfnhlehnkaa", sum := "a7313323e15c06e9a03578ec16c075c89604c522851c4809d9ec46a69ae46946", func := "loop.example/g00088/laws.FnExactGfLog", spec := "fnExactGfLog", apart := false }
def FnExactGfLogSaid : Prop := fnExactGfLogRow.holds Try.pinned (OpenSpec.ofChange fnExactGfLogSpec)

/-- ITS FALSE NEIGHBOUR: 'it returns false'. Refute it at one input. -/
def fnExactGfLogWrong : ChangeSpec := { name := "fnExactGfLog", fn := fun _ => fun
  | [d] => { results := [.lit (.bool false)], args := [d] }
  | _ => none }
def FnExactGfLogWrongFalsely : Prop := fnExactGfLogRow.holds Try.pinned (OpenSpec.ofChange fnExactGfLogWrong)

/-- 'laws.FnField': WHATEVER THE INPUT: true; the input reads as it did. -/
def fnFieldSpec : ChangeSpec := { name := "fnField", fn := fun _ => fun
  | [d] => { results := [.lit (.bool true)], args := [d] }
  | _ => none }
def fnFieldRow : OpenClaim := { program := "ythpijfnhlehnkaa", sum := "a7313323e15c06e9a03578ec16c075c89604c522851c4809d9ec46a69ae46946", func := "loop.example/g00088/laws.FnField", spec := "fnField", apart := false }
def FnFieldSaid : Prop := fnFieldRow.holds Try.pinned (OpenSpec.ofChange fnFieldSpec)

/-- ITS FALSE NEIGHBOUR: 'it returns false'. Refute it at one input. -/
def fnFieldWrong : ChangeSpec := { name := "fnField", fn := fun _ => fun
  | [d] => { results := [.lit (.bool false)], args := [d] }
  | _ => none }
def FnFieldWrongFalsely : Prop := fnFieldRow.holds Try.pinned (OpenSpec.ofChange fnFieldWrong)

/-- 'laws.FnExactGfDot': WHATEVER THE INPUT: true; the input reads as it did. -/
def fnExactGfDotSpec : ChangeSpec := { name := "fnExactGfDot", fn := fun _ => fun
  | [d1, d2] => { results := [.lit (.bool true)], args := [d1, d2] }
  | _ => none }
def fnExactGfDotRow : OpenClaim := { program := "ythpijfnhlehnkaa", sum := "a7313323e15c06e9a03578ec16c075c89604c522851c4809d9ec46a69ae46946", func := "loop.example/g00088/laws.FnExactGfDot", spec := "fnExactGfDot", apart := false }
def FnExactGfDotSaid : Prop := fnExactGfDotRow.holds Try.pinned (OpenSpec.ofChange fnExactGfDotSpec)

/-- ITS FALSE NEIGHBOUR: 'it returns false'. Refute it at one input. -/
def fnExactGfDotWrong : ChangeSpec := { name := "fnExactGfDot", fn := fun _ => fun
  | [d1, d2] => { results := [.lit (.bool false)], args := [d1, d2] }
  | _ => none }
def FnExactGfDotWrongFalsely : Prop := fnExactGfDotRow.holds Try.pinned (OpenSpec.ofChange fnExactGfDotWrong)

/-- 'laws.FnExactGfInv': WHATEVER THE INPUT: true; the input reads as it did. -/
def fnExactGfInvSpec : ChangeSpec := { name := "fnExactGfInv", fn := fun _ => fun
  | [d] => { results := [.lit (.bool true)], args := [d] }
  | _ => none }
def fnExactGfInvRow : OpenClaim := { program := "ythpijfnhlehnkaa", sum := "a7313323e15c06e9a03578ec16c075c89604c522851c4809d9ec46a69ae46946", func := "loop.example/g00088/laws.FnExactGfInv", spec := "fnExactGfInv", apart := false }
def FnExactGfInvSaid : Prop := fnExactGfInvRow.holds Try.pinned (OpenSpec.ofChange fnExactGfInvSpec)

/-- ITS FALSE NEIGHBOUR: 'it returns false'. Refute it at one input. -/
def fnExactGfInvWrong : ChangeSpec := { name := "fnExactGfInv", fn := fun _ => fun
  | [d] => { results := [.lit (.bool false)], args := [d] }
  | _ => none }
def FnExactGfInvWrongFalsely : Prop := fnExactGfInvRow.holds Try.pinned (OpenSpec.ofChange fnExactGfInvWrong)

/-- 'laws.FnExactGfAxpy': WHATEVER THE INPUT: true; the input reads as it did. -/
def fnExactGfAxpySpec : ChangeSpec := { name := "fnExactGfAxpy", fn := fun _ => fun
  | [d1, d2, d3] => { results := [.lit (.bool true)], args := [d1, d2, d3] }
  | _ => none }
def fnExactGfAxpyRow : OpenClaim := { program := "ythpijfnhlehnkaa", sum := "a7313323e15c06e9a03578ec16c075c89604c522851c4809d9ec46a69ae46946", func := "loop.example/g00088/laws.FnExactGfAxpy", spec := "fnExactGfAxpy", apart := false }
def FnExactGfAxpySaid : Prop := fnExactGfAxpyRow.holds Try.pinned (OpenSpec.ofChange fnExactGfAxpySpec)

/-- ITS FALSE NEIGHBOUR: 'it returns false'. Refute it at one input. -/
def fnExactGfAxpyWrong : ChangeSpec := { name := "fnExactGfAxpy", fn := fun _ => fun
  | [d1, d2, d3] => { results := [.lit (.bool false)], args := [d1, d2, d3] }
  | _ => none }
def FnExactGfAxpyWrongFalsely : Prop := fnExactGfAxpyRow.holds Try.pinned (OpenSpec.ofChange fnExactGfAxpyWrong)

/-- 'laws.FnExactParts': WHATEVER THE INPUT: true; the input reads as it did. -/
def fnExactPartsSpec : ChangeSpec := { name := "fnExactParts", fn := fun _ => fun
  | [d] => { results := [.lit (.bool true)], args := [d] }
  | _ => none }
def fnExactPartsRow : OpenClaim := { program := "ythpijfnhlehnkaa", sum := "a7313323e15c06e9a03578ec16c075c89604c522851c4809d9ec46a69ae46946", func := "loop.example/g00088/laws.FnExactParts", spec := "fnExactParts", apart := false }
def FnExactPartsSaid : Prop := fnExactPartsRow.holds Try.pinned (OpenSpec.ofChange fnExactPartsSpec)

/-- ITS FALSE NEIGHBOUR: 'it returns false'. Refute it at one input. -/
def fnExactPartsWrong : ChangeSpec := { name := "fnExactParts", fn := fun _ => fun
  | [d] => { results := [.lit (.bool false)], args := [d] }
  | _ => none }
def FnExactPartsWrongFalsely : Prop := fnExactPartsRow.holds Try.pinned (OpenSpec.ofChange fnExactPartsWrong)

/-- 'laws.FnExactUnparts': WHATEVER THE INPUT: true; the input reads as it did. -/
def fnExactUnpartsSpec : ChangeSpec := { name := "fnExactUnparts", fn := fun _ => fun
  | [d] => { results := [.lit (.bool true)], args := [d] }
  | _ => none }
def fnExactUnpartsRow : OpenClaim := { program := "ythpijfnhlehnkaa", sum := "a7313323e15c06e9a03578ec16c075c89604c522851c4809d9ec46a69ae46946", func := "loop.example/g00088/laws.FnExactUnparts", spec := "fnExactUnparts", apart := false }
def FnExactUnpartsSaid : Prop := fnExactUnpartsRow.holds Try.pinned (OpenSpec.ofChange fnExactUnpartsSpec)

/-- ITS FALSE NEIGHBOUR: 'it returns false'. Refute it at one input. -/
def fnExactUnpartsWrong : ChangeSpec := { name := "fnExactUnparts", fn := fun _ => fun
  | [d] => { results := [.lit (.bool false)], args := [d] }
  | _ => none }
def FnExactUnpartsWrongFalsely : Prop := fnExactUnpartsRow.holds Try.pinned (OpenSpec.ofChange fnExactUnpartsWrong)

/- THE SECOND FORM. 'bulk': how many values and letters a reading holds, each counted each time it is reached (what is shared counts as often as it is met; a slice's spare places count too). A statement '..UptoSaid' is the law's where the arguments, and the package variables that the reading takes, are together of bulk at most 1048576: NARROWER than '..Said'. Prove '..Said' where nothing that the law and all that it calls make is longer than what came in: it says more and counts as full. Else prove '..UptoSaid'. A law counts once. -/
mutual
def uptoBulk {H : Type} : DataW H → Nat
  | .lit (.string bytes) => bytes.length + 1
  | .lit _ => 1
  | .nil => 1
  | .ptr d => uptoBulk d + 1
  | .slice elems spare => uptoBulkAll elems + uptoBulkAll spare + 1
  | .agg parts => uptoBulkAll parts + 1
  | .iface _ d => uptoBulk d + 1
  | .map entries => uptoBulkEntries entries + 1
  | .held _ => 1
def uptoBulkAll {H : Type} : List (DataW H) → Nat
  | [] => 0
  | d :: r => uptoBulk d + uptoBulkAll r
def uptoBulkEntries {H : Type} : List (Lit × DataW H) → Nat
  | [] => 0
  | x :: r => uptoBulkEntry x + uptoBulkEntries r
def uptoBulkEntry {H : Type} : Lit × DataW H → Nat
  | (.string bytes, d) => bytes.length + uptoBulk d + 1
  | (_, d) => uptoBulk d + 1
 end
def uptoSmall : (H : Type) → List (DataW H) → Bool := fun _ ds => decide (uptoBulkAll ds ≤ 1048576)
def OpenSpec.upto (s : _root_.Go.ChangeSpec) : _root_.Go.OpenSpec := { _root_.Go.OpenSpec.ofChange s with cond := some uptoSmall }

/-- 'laws.FnExactConstants', WHERE WHAT IT READS IS OF BULK AT MOST 1048576: true; the input reads as it did. -/
def fnExactConstantsUptoRow : OpenClaim := { program := "ythpijfnhlehnkaa", sum := "a7313323e15c06e9a03578ec16c075c89604c522851c4809d9ec46a69ae46946", func := "loop.example/g00088/laws.FnExactConstants", spec := "fnExactConstants", apart := false, narrowed := true }
def FnExactConstantsUptoSaid : Prop := fnExactConstantsUptoRow.holds Try.pinned (OpenSpec.upto fnExactConstantsSpec)

/-- 'laws.FnExactLong', WHERE WHAT IT READS IS OF BULK AT MOST 1048576: true; the input reads as it did. -/
def fnExactLongUptoRow : OpenClaim := { program := "ythpijfnhlehnkaa", sum := "a7313323e15c06e9a03578ec16c075c89604c522851c4809d9ec46a69ae46946", func := "loop.example/g00088/laws.FnExactLong", spec := "fnExactLong", apart := false, narrowed := true }
def FnExactLongUptoSaid : Prop := fnExactLongUptoRow.holds Try.pinned (OpenSpec.upto fnExactLongSpec)

/-- 'laws.FnExactGfMul', WHERE WHAT IT READS IS OF BULK AT MOST 1048576: true; the input reads as it did. -/
def fnExactGfMulUptoRow : OpenClaim := { program := "ythpijfnhlehnkaa", sum := "a7313323e15c06e9a03578ec16c075c89604c522851c4809d9ec46a69ae46946", func := "loop.example/g00088/laws.FnExactGfMul", spec := "fnExactGfMul", apart := false, narrowed := true }
def FnExactGfMulUptoSaid : Prop := fnExactGfMulUptoRow.holds Try.pinned (OpenSpec.upto fnExactGfMulSpec)

/-- 'laws.FnExactEight', WHERE WHAT IT READS IS OF BULK AT MOST 1048576: true; the input reads as it did. -/
def fnExactEightUptoRow : OpenClaim := { program := "ythpijfnhlehnkaa", sum := "a7313323e15c06e9a03578ec16c075c89604c522851c4809d9ec46a69ae46946", func := "loop.example/g00088/laws.FnExactEight", spec := "fnExactEight", apart := false, narrowed := true }
def FnExactEightUptoSaid : Prop := fnExactEightUptoRow.holds Try.pinned (OpenSpec.upto fnExactEightSpec)

/-- 'laws.FnExactGfAt', WHERE WHAT IT READS IS OF BULK AT MOST 1048576: true; the input reads as it did. -/
def fnExactGfAtUptoRow : OpenClaim := { program := "ythpijfnhlehnkaa", sum := "a7313323e15c06e9a03578ec16c075c89604c522851c4809d9ec46a69ae46946", func := "loop.example/g00088/laws.FnExactGfAt", spec := "fnExactGfAt", apart := false, narrowed := true }
def FnExactGfAtUptoSaid : Prop := fnExactGfAtUptoRow.holds Try.pinned (OpenSpec.upto fnExactGfAtSpec)

/-- 'laws.FnExactGfPow', WHERE WHAT IT READS IS OF BULK AT MOST 1048576: true; the input reads as it did. -/
def fnExactGfPowUptoRow : OpenClaim := { program := "ythpijfnhlehnkaa", sum := "a7313323e15c06e9a03578ec16c075c89604c522851c4809d9ec46a69ae46946", func := "loop.example/g00088/laws.FnExactGfPow", spec := "fnExactGfPow", apart := false, narrowed := true }
def FnExactGfPowUptoSaid : Prop := fnExactGfPowUptoRow.holds Try.pinned (OpenSpec.upto fnExactGfPowSpec)

/-- 'laws.FnExactGfLog', WHERE WHAT IT READS IS OF BULK AT MOST 1048576: true; the input reads as it did. -/
def fnExactGfLogUptoRow : OpenClaim := { program := "ythpijfnhlehnkaa", sum := "a7313323e15c06e9a03578ec16c075c89604c522851c4809d9ec46a69ae46946", func := "loop.example/g00088/laws.FnExactGfLog", spec := "fnExactGfLog", apart := false, narrowed := true }
def FnExactGfLogUptoSaid : Prop := fnExactGfLogUptoRow.holds Try.pinned (OpenSpec.upto fnExactGfLogSpec)

/-- 'laws.FnField', WHERE WHAT IT READS IS OF BULK AT MOST 1048576: true; the input reads as it did. -/
def fnFieldUptoRow : OpenClaim := { program := "ythpijfnhlehnkaa", sum := "a7313323e15c06e9a03578ec16c075c89604c522851c4809d9ec46a69ae46946", func := "loop.example/g00088/laws.FnField", spec := "fnField", apart := false, narrowed := true }
def FnFieldUptoSaid : Prop := fnFieldUptoRow.holds Try.pinned (OpenSpec.upto fnFieldSpec)

/-- 'laws.FnExactGfDot', WHERE WHAT IT READS IS OF BULK AT MOST 1048576: true; the input reads as it did. -/
def fnExactGfDotUptoRow : OpenClaim := { program := "ythpijfnhlehnkaa", sum := "a7313323e15c06e9a03578ec16c075c89604c522851c4809d9ec46a69ae46946", func := "loop.example/g00088/laws.FnExactGfDot", spec := "fnExactGfDot", apart := false, narrowed := true }
def FnExactGfDotUptoSaid : Prop := fnExactGfDotUptoRow.holds Try.pinned (OpenSpec.upto fnExactGfDotSpec)

/-- 'laws.FnExactGfInv', WHERE WHAT IT READS IS OF BULK AT MOST 1048576: true; the input reads as it did. -/
def fnExactGfInvUptoRow : OpenClaim := { program := "ythpijfnhlehnkaa", sum := "a7313323e15c06e9a03578ec16c075c89604c522851c4809d9ec46a69ae46946", func := "loop.example/g00088/laws.FnExactGfInv", spec := "fnExactGfInv", apart := false, narrowed := true }
def FnExactGfInvUptoSaid : Prop := fnExactGfInvUptoRow.holds Try.pinned (OpenSpec.upto fnExactGfInvSpec)

/-- 'laws.FnExactGfAxpy', WHERE WHAT IT READS IS OF BULK AT MOST 1048576: true; the input reads as it did. -/
def fnExactGfAxpyUptoRow : OpenClaim := { program := "ythpijfnhlehnkaa", sum := "a7313323e15c06e9a03578ec16c075c89604c522851c4809d9ec46a69ae46946", func := "loop.example/g00088/laws.FnExactGfAxpy", spec := "fnExactGfAxpy", apart := false, narrowed := true }
def FnExactGfAxpyUptoSaid : Prop := fnExactGfAxpyUptoRow.holds Try.pinned (OpenSpec.upto fnExactGfAxpySpec)

/-- 'laws.FnExactParts', WHERE WHAT IT READS IS OF BULK AT MOST 1048576: true; the input reads as it did. -/
def fnExactPartsUptoRow : OpenClaim := { program := "ythpijfnhlehnkaa", sum := "a7313323e15c06e9a03578ec16c075c89604c522851c4809d9ec46a69ae46946", func := "loop.example/g00088/laws.FnExactParts", spec := "fnExactParts", apart := false, narrowed := true }
def FnExactPartsUptoSaid : Prop := fnExactPartsUptoRow.holds Try.pinned (OpenSpec.upto fnExactPartsSpec)

/-- 'laws.FnExactUnparts', WHERE WHAT IT READS IS OF BULK AT MOST 1048576: true; the input reads as it did. -/
def fnExactUnpartsUptoRow : OpenClaim := { program := "ythpijfnhlehnkaa", sum := "a7313323e15c06e9a03578ec16c075c89604c522851c4809d9ec46a69ae46946", func := "loop.example/g00088/laws.FnExactUnparts", spec := "fnExactUnparts", apart := false, narrowed := true }
def FnExactUnpartsUptoSaid : Prop := fnExactUnpartsUptoRow.holds Try.pinned (OpenSpec.upto fnExactUnpartsSpec)

end Rows
end Go.Proofs.Ythpijfnhlehnkaa
