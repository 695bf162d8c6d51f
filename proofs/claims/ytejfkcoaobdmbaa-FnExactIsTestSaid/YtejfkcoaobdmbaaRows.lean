/-
  No cell of these rows narrows 'for every input' (looked for: loops, veiled, ifaces, maps, wideKeys, modest, calm, conditions, laid).
  DERIVED. THE GIVEN ROWS OF THIS SEAT. 12 by the template 'for every input the law returns true; each argument reads behind the call as it read before'; 0 by the template 'total and deterministic' (their statements: YtejfkcoaobdmbaaTotals.lean).
  GIVEN WITH THE SEED: the statements are not yours to turn. If you find one false, say at which input.
  Laid BY PROGRAM, IN A SANDBOX (cutbox-rows.mjs): the forced cells as the released guide's own fill.sh prints them over the translation 01741dc7477560d1… (all of the seat's roots in one cut). By AI agents, Wed Nov 11 2026. No macro, syntax, notation, axiom, sorry.
-/
import Derived.Test.YtejfkcoaobdmbaaChecked
import GoSem.Claim
import GoSem.ClaimJoined
import GoSem.ClaimMapViews
import Derived.JoinedTies
import Derived.KernelRfl
namespace Go.Proofs.Ytejfkcoaobdmbaa
/- THE CELL 'sum', in the pinned program and in every row, IS THE sha256 OF THE DUMP (.gsa) THAT YtejfkcoaobdmbaaProg.lean LOADS. Nothing in Lean hashes anything: it is a label: what it is worth is what the hold of that sum in a sandbox is worth. -/
noncomputable def Try.pinned : Pinned := { name := "ytejfkcoaobdmbaa", sum := "01741dc7477560d1b7b0f15102c73a31f899cdb46d3208e2abba53fe6b01e98a", checked := Try.checked }
namespace Rows
def none {H : Type} : Left H := { results := [], args := [] }

/-- 'laws.FnExactConstants': WHATEVER THE INPUT: true; the input reads as it did. -/
def fnExactConstantsSpec : ChangeSpec := { name := "fnExactConstants", fn := fun _ => fun
  | [] => { results := [.lit (.bool true)], args := [] }
  | _ => none }
def fnExactConstantsRow : OpenClaim := { program := "ytejfkcoaobdmbaa", sum := "01741dc7477560d1b7b0f15102c73a31f899cdb46d3208e2abba53fe6b01e98a", func := "loop.example/g00590/laws.FnExactConstants", spec := "fnExactConstants", apart := false }
def FnExactConstantsSaid : Prop := fnExactConstantsRow.holds Try.pinned (OpenSpec.ofChange fnExactConstantsSpec)

/-- ITS FALSE NEIGHBOUR: 'it returns false'. Refute it at one input. -/
def fnExactConstantsWrong : ChangeSpec := { name := "fnExactConstants", fn := fun _ => fun
  | [] => { results := [.lit (.bool false)], args := [] }
  | _ => none }
def FnExactConstantsWrongFalsely : Prop := fnExactConstantsRow.holds Try.pinned (OpenSpec.ofChange fnExactConstantsWrong)

/-- 'laws.FnExactIsError': WHATEVER THE INPUT: true; the input reads as it did. -/
def fnExactIsErrorSpec : ChangeSpec := { name := "fnExactIsError", fn := fun _ => fun
  | [d] => { results := [.lit (.bool true)], args := [d] }
  | _ => none }
def fnExactIsErrorRow : OpenClaim := { program := "ytejfkcoaobdmbaa", sum := "01741dc7477560d1b7b0f15102c73a31f899cdb46d3208e2abba53fe6b01e98a", func := "loop.example/g00590/laws.FnExactIsError", spec := "fnExactIsError", apart := false }
def FnExactIsErrorSaid : Prop := fnExactIsErrorRow.holds Try.pinned (OpenSpec.ofChange fnExactIsErrorSpec)

/-- ITS FALSE NEIGHBOUR: 'it returns false'. Refute it at one input. -/
def fnExactIsErrorWrong : ChangeSpec := { name := "fnExactIsError", fn := fun _ => fun
  | [d] => { results := [.lit (.bool false)], args := [d] }
  | _ => none }
def FnExactIsErrorWrongFalsely : Prop := fnExactIsErrorRow.holds Try.pinned (OpenSpec.ofChange fnExactIsErrorWrong)

/-- 'laws.FnExactIsTruth': WHATEVER THE INPUT: true; the input reads as it did. -/
def fnExactIsTruthSpec : ChangeSpec := { name := "fnExactIsTruth", fn := fun _ => fun
  | [d] => { results := [.lit (.bool true)], args := [d] }
  | _ => none }
def fnExactIsTruthRow : OpenClaim := { program := "ytejfkcoaobdmbaa", sum := "01741dc7477560d1b7b0f15102c73a31f899cdb46d3208e2abba53fe6b01e98a", func := "loop.example/g00590/laws.FnExactIsTruth", spec := "fnExactIsTruth", apart := false }
def FnExactIsTruthSaid : Prop := fnExactIsTruthRow.holds Try.pinned (OpenSpec.ofChange fnExactIsTruthSpec)

/-- ITS FALSE NEIGHBOUR: 'it returns false'. Refute it at one input. -/
def fnExactIsTruthWrong : ChangeSpec := { name := "fnExactIsTruth", fn := fun _ => fun
  | [d] => { results := [.lit (.bool false)], args := [d] }
  | _ => none }
def FnExactIsTruthWrongFalsely : Prop := fnExactIsTruthRow.holds Try.pinned (OpenSpec.ofChange fnExactIsTruthWrong)

/-- 'laws.FnExactIsWithin': WHATEVER THE INPUT: true; the input reads as it did. -/
def fnExactIsWithinSpec : ChangeSpec := { name := "fnExactIsWithin", fn := fun _ => fun
  | [d1, d2] => { results := [.lit (.bool true)], args := [d1, d2] }
  | _ => none }
def fnExactIsWithinRow : OpenClaim := { program := "ytejfkcoaobdmbaa", sum := "01741dc7477560d1b7b0f15102c73a31f899cdb46d3208e2abba53fe6b01e98a", func := "loop.example/g00590/laws.FnExactIsWithin", spec := "fnExactIsWithin", apart := false }
def FnExactIsWithinSaid : Prop := fnExactIsWithinRow.holds Try.pinned (OpenSpec.ofChange fnExactIsWithinSpec)

/-- ITS FALSE NEIGHBOUR: 'it returns false'. Refute it at one input. -/
def fnExactIsWithinWrong : ChangeSpec := { name := "fnExactIsWithin", fn := fun _ => fun
  | [d1, d2] => { results := [.lit (.bool false)], args := [d1, d2] }
  | _ => none }
def FnExactIsWithinWrongFalsely : Prop := fnExactIsWithinRow.holds Try.pinned (OpenSpec.ofChange fnExactIsWithinWrong)

/-- 'laws.FnExactExecName': WHATEVER THE INPUT: true; the input reads as it did. -/
def fnExactExecNameSpec : ChangeSpec := { name := "fnExactExecName", fn := fun _ => fun
  | [d] => { results := [.lit (.bool true)], args := [d] }
  | _ => none }
def fnExactExecNameRow : OpenClaim := { program := "ytejfkcoaobdmbaa", sum := "01741dc7477560d1b7b0f15102c73a31f899cdb46d3208e2abba53fe6b01e98a", func := "loop.example/g00590/laws.FnExactExecName", spec := "fnExactExecName", apart := false }
def FnExactExecNameSaid : Prop := fnExactExecNameRow.holds Try.pinned (OpenSpec.ofChange fnExactExecNameSpec)

/-- ITS FALSE NEIGHBOUR: 'it returns false'. Refute it at one input. -/
def fnExactExecNameWrong : ChangeSpec := { name := "fnExactExecName", fn := fun _ => fun
  | [d] => { results := [.lit (.bool false)], args := [d] }
  | _ => none }
def FnExactExecNameWrongFalsely : Prop := fnExactExecNameRow.holds Try.pinned (OpenSpec.ofChange fnExactExecNameWrong)

/-- 'laws.FnExactJoinOf': WHATEVER THE INPUT: true; the input reads as it did. -/
def fnExactJoinOfSpec : ChangeSpec := { name := "fnExactJoinOf", fn := fun _ => fun
  | [d1, d2] => { results := [.lit (.bool true)], args := [d1, d2] }
  | _ => none }
def fnExactJoinOfRow : OpenClaim := { program := "ytejfkcoaobdmbaa", sum := "01741dc7477560d1b7b0f15102c73a31f899cdb46d3208e2abba53fe6b01e98a", func := "loop.example/g00590/laws.FnExactJoinOf", spec := "fnExactJoinOf", apart := false }
def FnExactJoinOfSaid : Prop := fnExactJoinOfRow.holds Try.pinned (OpenSpec.ofChange fnExactJoinOfSpec)

/-- ITS FALSE NEIGHBOUR: 'it returns false'. Refute it at one input. -/
def fnExactJoinOfWrong : ChangeSpec := { name := "fnExactJoinOf", fn := fun _ => fun
  | [d1, d2] => { results := [.lit (.bool false)], args := [d1, d2] }
  | _ => none }
def FnExactJoinOfWrongFalsely : Prop := fnExactJoinOfRow.holds Try.pinned (OpenSpec.ofChange fnExactJoinOfWrong)

/-- 'laws.FnExactNotOf': WHATEVER THE INPUT: true; the input reads as it did. -/
def fnExactNotOfSpec : ChangeSpec := { name := "fnExactNotOf", fn := fun _ => fun
  | [d] => { results := [.lit (.bool true)], args := [d] }
  | _ => none }
def fnExactNotOfRow : OpenClaim := { program := "ytejfkcoaobdmbaa", sum := "01741dc7477560d1b7b0f15102c73a31f899cdb46d3208e2abba53fe6b01e98a", func := "loop.example/g00590/laws.FnExactNotOf", spec := "fnExactNotOf", apart := false }
def FnExactNotOfSaid : Prop := fnExactNotOfRow.holds Try.pinned (OpenSpec.ofChange fnExactNotOfSpec)

/-- ITS FALSE NEIGHBOUR: 'it returns false'. Refute it at one input. -/
def fnExactNotOfWrong : ChangeSpec := { name := "fnExactNotOf", fn := fun _ => fun
  | [d] => { results := [.lit (.bool false)], args := [d] }
  | _ => none }
def FnExactNotOfWrongFalsely : Prop := fnExactNotOfRow.holds Try.pinned (OpenSpec.ofChange fnExactNotOfWrong)

/-- 'laws.FnExactTruthText': WHATEVER THE INPUT: true; the input reads as it did. -/
def fnExactTruthTextSpec : ChangeSpec := { name := "fnExactTruthText", fn := fun _ => fun
  | [d] => { results := [.lit (.bool true)], args := [d] }
  | _ => none }
def fnExactTruthTextRow : OpenClaim := { program := "ytejfkcoaobdmbaa", sum := "01741dc7477560d1b7b0f15102c73a31f899cdb46d3208e2abba53fe6b01e98a", func := "loop.example/g00590/laws.FnExactTruthText", spec := "fnExactTruthText", apart := false }
def FnExactTruthTextSaid : Prop := fnExactTruthTextRow.holds Try.pinned (OpenSpec.ofChange fnExactTruthTextSpec)

/-- ITS FALSE NEIGHBOUR: 'it returns false'. Refute it at one input. -/
def fnExactTruthTextWrong : ChangeSpec := { name := "fnExactTruthText", fn := fun _ => fun
  | [d] => { results := [.lit (.bool false)], args := [d] }
  | _ => none }
def FnExactTruthTextWrongFalsely : Prop := fnExactTruthTextRow.holds Try.pinned (OpenSpec.ofChange fnExactTruthTextWrong)

/-- 'laws.FnExactNamesOf': WHATEVER THE INPUT: true; the input reads as it did. -/
def fnExactNamesOfSpec : ChangeSpec := { name := "fnExactNamesOf", fn := fun _ => fun
  | [d] => { results := [.lit (.bool true)], args := [d] }
  | _ => none }
def fnExactNamesOfRow : OpenClaim := { program := "ytejfkcoaobdmbaa", sum := "01741dc7477560d1b7b0f15102c73a31f899cdb46d3208e2abba53fe6b01e98a", func := "loop.example/g00590/laws.FnExactNamesOf", spec := "fnExactNamesOf", apart := false }
def FnExactNamesOfSaid : Prop := fnExactNamesOfRow.holds Try.pinned (OpenSpec.ofChange fnExactNamesOfSpec)

/-- ITS FALSE NEIGHBOUR: 'it returns false'. Refute it at one input. -/
def fnExactNamesOfWrong : ChangeSpec := { name := "fnExactNamesOf", fn := fun _ => fun
  | [d] => { results := [.lit (.bool false)], args := [d] }
  | _ => none }
def FnExactNamesOfWrongFalsely : Prop := fnExactNamesOfRow.holds Try.pinned (OpenSpec.ofChange fnExactNamesOfWrong)

/-- 'laws.FnExactIsName': WHATEVER THE INPUT: true; the input reads as it did. -/
def fnExactIsNameSpec : ChangeSpec := { name := "fnExactIsName", fn := fun _ => fun
  | [d] => { results := [.lit (.bool true)], args := [d] }
  | _ => none }
def fnExactIsNameRow : OpenClaim := { program := "ytejfkcoaobdmbaa", sum := "01741dc7477560d1b7b0f15102c73a31f899cdb46d3208e2abba53fe6b01e98a", func := "loop.example/g00590/laws.FnExactIsName", spec := "fnExactIsName", apart := false }
def FnExactIsNameSaid : Prop := fnExactIsNameRow.holds Try.pinned (OpenSpec.ofChange fnExactIsNameSpec)

/-- ITS FALSE NEIGHBOUR: 'it returns false'. Refute it at one input. -/
def fnExactIsNameWrong : ChangeSpec := { name := "fnExactIsName", fn := fun _ => fun
  | [d] => { results := [.lit (.bool false)], args := [d] }
  | _ => none }
def FnExactIsNameWrongFalsely : Prop := fnExactIsNameRow.holds Try.pinned (OpenSpec.ofChange fnExactIsNameWrong)

/-- 'laws.FnExactIsTest': WHATEVER THE INPUT: true; the input reads as it did. -/
def fnExactIsTestSpec : ChangeSpec := { name := "fnExactIsTest", fn := fun _ => fun
  | [d] => { results := [.lit (.bool true)], args := [d] }
  | _ => none }
def fnExactIsTestRow : OpenClaim := { program := "ytejfkcoaobdmbaa", sum := "01741dc7477560d1b7b0f15102c73a31f899cdb46d3208e2abba53fe6b01e98a", func := "loop.example/g00590/laws.FnExactIsTest", spec := "fnExactIsTest", apart := false }
def FnExactIsTestSaid : Prop := fnExactIsTestRow.holds Try.pinned (OpenSpec.ofChange fnExactIsTestSpec)

/-- ITS FALSE NEIGHBOUR: 'it returns false'. Refute it at one input. -/
def fnExactIsTestWrong : ChangeSpec := { name := "fnExactIsTest", fn := fun _ => fun
  | [d] => { results := [.lit (.bool false)], args := [d] }
  | _ => none }
def FnExactIsTestWrongFalsely : Prop := fnExactIsTestRow.holds Try.pinned (OpenSpec.ofChange fnExactIsTestWrong)

/-- 'laws.FnExactAndOf': WHATEVER THE INPUT: true; the input reads as it did. -/
def fnExactAndOfSpec : ChangeSpec := { name := "fnExactAndOf", fn := fun _ => fun
  | [d1, d2] => { results := [.lit (.bool true)], args := [d1, d2] }
  | _ => none }
def fnExactAndOfRow : OpenClaim := { program := "ytejfkcoaobdmbaa", sum := "01741dc7477560d1b7b0f15102c73a31f899cdb46d3208e2abba53fe6b01e98a", func := "loop.example/g00590/laws.FnExactAndOf", spec := "fnExactAndOf", apart := false }
def FnExactAndOfSaid : Prop := fnExactAndOfRow.holds Try.pinned (OpenSpec.ofChange fnExactAndOfSpec)

/-- ITS FALSE NEIGHBOUR: 'it returns false'. Refute it at one input. -/
def fnExactAndOfWrong : ChangeSpec := { name := "fnExactAndOf", fn := fun _ => fun
  | [d1, d2] => { results := [.lit (.bool false)], args := [d1, d2] }
  | _ => none }
def FnExactAndOfWrongFalsely : Prop := fnExactAndOfRow.holds Try.pinned (OpenSpec.ofChange fnExactAndOfWrong)

/- THE SECOND FORM. 'bulk': how many values and letters a reading holds, each counted each time it is reached (what is shared counts as often as it is met; a slice's spare places count too). A statement '..UptoSaid' is the law's where the arguments, and the package variables that the reading takes, are together of bulk at most 1048576: NARROWER than '..Said'. Prove '..Said' where nothing that the law and all that it calls make is longer than what came in: it says more and counts as full. Else prove '..UptoSaid'. A law counts once. -/
mutual
def uptoBulk {H : Type} : DataW H → Nat
  | .lit (.string bytes) => bytes.length + 1
  | .lit _ => 1
  | .nil => 1
  | .ptr d => uptoBulk d + 1
  | .slice elems spare => uptoBulkAll elems + uptoBulkAll spare + 1
  | .agg parts => uptoBulkAll parts + 1
  | .iface _ d => uptoBulk d + 1
  | .map entries => uptoBulkEntries entries + 1
  | .held _ => 1
def uptoBulkAll {H : Type} : List (DataW H) → Nat
  | [] => 0
  | d :: r => uptoBulk d + uptoBulkAll r
def uptoBulkEntries {H : Type} : List (Lit × DataW H) → Nat
  | [] => 0
  | x :: r => uptoBulkEntry x + uptoBulkEntries r
def uptoBulkEntry {H : Type} : Lit × DataW H → Nat
  | (.string bytes, d) => bytes.length + uptoBulk d + 1
  | (_, d) => uptoBulk d + 1
 end
def uptoSmall : (H : Type) → List (DataW H) → Bool := fun _ ds => decide (uptoBulkAll ds ≤ 1048576)
def OpenSpec.upto (s : _root_.Go.ChangeSpec) : _root_.Go.OpenSpec := { _root_.Go.OpenSpec.ofChange s with cond := some uptoSmall }

/-- 'laws.FnExactConstants', WHERE WHAT IT READS IS OF BULK AT MOST 1048576: true; the input reads as it did. -/
def fnExactConstantsUptoRow : OpenClaim := { program := "ytejfkcoaobdmbaa", sum := "01741dc7477560d1b7b0f15102c73a31f899cdb46d3208e2abba53fe6b01e98a", func := "loop.example/g00590/laws.FnExactConstants", spec := "fnExactConstants", apart := false, narrowed := true }
def FnExactConstantsUptoSaid : Prop := fnExactConstantsUptoRow.holds Try.pinned (OpenSpec.upto fnExactConstantsSpec)

/-- 'laws.FnExactIsError', WHERE WHAT IT READS IS OF BULK AT MOST 1048576: true; the input reads as it did. -/
def fnExactIsErrorUptoRow : OpenClaim := { program := "ytejfkcoaobdmbaa", sum := "01741dc7477560d1b7b0f15102c73a31f899cdb46d3208e2abba53fe6b01e98a", func := "loop.example/g00590/laws.FnExactIsError", spec := "fnExactIsError", apart := false, narrowed := true }
def FnExactIsErrorUptoSaid : Prop := fnExactIsErrorUptoRow.holds Try.pinned (OpenSpec.upto fnExactIsErrorSpec)

/-- 'laws.FnExactIsTruth', WHERE WHAT IT READS IS OF BULK AT MOST 1048576: true; the input reads as it did. -/
def fnExactIsTruthUptoRow : OpenClaim := { program := "ytejfkcoaobdmbaa", sum := "01741dc7477560d1b7b0f15102c73a31f899cdb46d3208e2abba53fe6b01e98a", func := "loop.example/g00590/laws.FnExactIsTruth", spec := "fnExactIsTruth", apart := false, narrowed := true }
def FnExactIsTruthUptoSaid : Prop := fnExactIsTruthUptoRow.holds Try.pinned (OpenSpec.upto fnExactIsTruthSpec)

/-- 'laws.FnExactIsWithin', WHERE WHAT IT READS IS OF BULK AT MOST 1048576: true; the input reads as it did. -/
def fnExactIsWithinUptoRow : OpenClaim := { program := "ytejfkcoaobdmbaa", sum := "01741dc7477560d1b7b0f15102c73a31f899cdb46d3208e2abba53fe6b01e98a", func := "loop.example/g00590/laws.FnExactIsWithin", spec := "fnExactIsWithin", apart := false, narrowed := true }
def FnExactIsWithinUptoSaid : Prop := fnExactIsWithinUptoRow.holds Try.pinned (OpenSpec.upto fnExactIsWithinSpec)

/-- 'laws.FnExactExecName', WHERE WHAT IT READS IS OF BULK AT MOST 1048576: true; the input reads as it did. -/
def fnExactExecNameUptoRow : OpenClaim := { program := "ytejfkcoaobdmbaa", sum := "01741dc7477560d1b7b0f15102c73a31f899cdb46d3208e2abba53fe6b01e98a", func := "loop.example/g00590/laws.FnExactExecName", spec := "fnExactExecName", apart := false, narrowed := true }
def FnExactExecNameUptoSaid : Prop := fnExactExecNameUptoRow.holds Try.pinned (OpenSpec.upto fnExactExecNameSpec)

/-- 'laws.FnExactJoinOf', WHERE WHAT IT READS IS OF BULK AT MOST 1048576: true; the input reads as it did. -/
def fnExactJoinOfUptoRow : OpenClaim := { program := "ytejfkcoaobdmbaa", sum := "01741dc7477560d1b7b0f15102c73a31f899cdb46d3208e2abba53fe6b01e98a", func := "loop.example/g00590/laws.FnExactJoinOf", spec := "fnExactJoinOf", apart := false, narrowed := true }
def FnExactJoinOfUptoSaid : Prop := fnExactJoinOfUptoRow.holds Try.pinned (OpenSpec.upto fnExactJoinOfSpec)

/-- 'laws.FnExactNotOf', WHERE WHAT IT READS IS OF BULK AT MOST 1048576: true; the input reads as it did. -/
def fnExactNotOfUptoRow : OpenClaim := { program := "ytejfkcoaobdmbaa", sum := "01741dc7477560d1b7b0f15102c73a31f899cdb46d3208e2abba53fe6b01e98a", func := "loop.example/g00590/laws.FnExactNotOf", spec := "fnExactNotOf", apart := false, narrowed := true }
def FnExactNotOfUptoSaid : Prop := fnExactNotOfUptoRow.holds Try.pinned (OpenSpec.upto fnExactNotOfSpec)

/-- 'laws.FnExactTruthText', WHERE WHAT IT READS IS OF BULK AT MOST 1048576: true; the input reads as it did. -/
def fnExactTruthTextUptoRow : OpenClaim := { program := "ytejfkcoaobdmbaa", sum := "01741dc7477560d1b7b0f15102c73a31f899cdb46d3208e2abba53fe6b01e98a", func := "loop.example/g00590/laws.FnExactTruthText", spec := "fnExactTruthText", apart := false, narrowed := true }
def FnExactTruthTextUptoSaid : Prop := fnExactTruthTextUptoRow.holds Try.pinned (OpenSpec.upto fnExactTruthTextSpec)

/-- 'laws.FnExactNamesOf', WHERE WHAT IT READS IS OF BULK AT MOST 1048576: true; the input reads as it did. -/
def fnExactNamesOfUptoRow : OpenClaim := { program := "ytejfkcoaobdmbaa", sum := "01741dc7477560d1b7b0f15102c73a31f899cdb46d3208e2abba53fe6b01e98a", func := "loop.example/g00590/laws.FnExactNamesOf", spec := "fnExactNamesOf", apart := false, narrowed := true }
def FnExactNamesOfUptoSaid : Prop := fnExactNamesOfUptoRow.holds Try.pinned (OpenSpec.upto fnExactNamesOfSpec)

/-- 'laws.FnExactIsName', WHERE WHAT IT READS IS OF BULK AT MOST 1048576: true; the input reads as it did. -/
def fnExactIsNameUptoRow : OpenClaim := { program := "ytejfkcoaobdmbaa", sum := "01741dc7477560d1b7b0f15102c73a31f899cdb46d3208e2abba53fe6b01e98a", func := "loop.example/g00590/laws.FnExactIsName", spec := "fnExactIsName", apart := false, narrowed := true }
def FnExactIsNameUptoSaid : Prop := fnExactIsNameUptoRow.holds Try.pinned (OpenSpec.upto fnExactIsNameSpec)

/-- 'laws.FnExactIsTest', WHERE WHAT IT READS IS OF BULK AT MOST 1048576: true; the input reads as it did. -/
def fnExactIsTestUptoRow : OpenClaim := { program := "ytejfkcoaobdmbaa", sum := "01741dc7477560d1b7b0f15102c73a31f899cdb46d3208e2abba53fe6b01e98a", func := "loop.example/g00590/laws.FnExactIsTest", spec := "fnExactIsTest", apart := false, narrowed := true }
def FnExactIsTestUptoSaid : Prop := fnExactIsTestUptoRow.holds Try.pinned (OpenSpec.upto fnExactIsTestSpec)

/-- 'laws.FnExactAndOf', WHERE WHAT IT READS IS OF BULK AT MOST 1048576: true; the input reads as it did. -/
def fnExactAndOfUptoRow : OpenClaim := { program := "ytejfkcoaobdmbaa", sum := "01741dc7477560d1b7b0f15102c73a31f899cdb46d3208e2abba53fe6b01e98a", func := "loop.example/g00590/laws.FnExactAndOf", spec := "fnExactAndOf", apart := false, narrowed := true }
def FnExactAndOfUptoSaid : Prop := fnExactAndOfUptoRow.holds Try.pinned (OpenSpec.upto fnExactAndOfSpec)

end Rows
end Go.Proofs.Ytejfkcoaobdmbaa
