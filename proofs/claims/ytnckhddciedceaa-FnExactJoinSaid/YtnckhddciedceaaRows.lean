/-
  NARROWER THAN 'FOR EVERY INPUT', by the rows' own cells (each row's printed sentence says how): FnExactSizeOf: loops · FnExactDepthOf: loops · FnExactEqualFormula: loops.
  DERIVED. THE GIVEN ROWS OF THIS SEAT. 12 by the template 'for every input the law returns true; each argument reads behind the call as it read before'; 0 by the template 'total and deterministic' (their statements: YtnckhddciedceaaTotals.lean).
  GIVEN WITH THE SEED: the statements are not yours to turn. If you find one false, say at which input.
  Laid BY PROGRAM, IN A SANDBOX (cutbox-rows.mjs): the forced cells as the released guide's own fill.sh prints them over the translation 55d61eefc7005603… (all of the seat's roots in one cut). By AI agents, Wed Nov 11 2026. No macro, syntax, notation, axiom, sorry.
-/
import Derived.Test.YtnckhddciedceaaChecked
import GoSem.Claim
import GoSem.ClaimJoined
import GoSem.ClaimMapViews
import Derived.JoinedTies
import Derived.KernelRfl
namespace Go.Proofs.Ytnckhddciedceaa
/- THE CELL 'sum', in the pinned program and in every row, IS THE sha256 OF THE DUMP (.gsa) THAT YtnckhddciedceaaProg.lean LOADS. Nothing in Lean hashes anything: it is a label: what it is worth is what the hold of that sum in a sandbox is worth. -/
noncomputable def Try.pinned : Pinned := { name := "ytnckhddciedceaa", sum := "55d61eefc70056035277874cce5ed43867fbb01089268332a4bf43435c3b5381", checked := Try.checked }
namespace Rows
def none {H : Type} : Left H := { results := [], args := [] }

/-- 'laws.FnExactOrOf': WHATEVER THE INPUT: true; the input reads as it did. -/
def fnExactOrOfSpec : ChangeSpec := { name := "fnExactOrOf", fn := fun _ => fun
  | [d1, d2] => { results := [.lit (.bool true)], args := [d1, d2] }
  | _ => none }
def fnExactOrOfRow : OpenClaim := { program := "ytnckhddciedceaa", sum := "55d61eefc70056035277874cce5ed43867fbb01089268332a4bf43435c3b5381", func := "loop.example/g00590/laws.FnExactOrOf", spec := "fnExactOrOf", apart := false }
def FnExactOrOfSaid : Prop := fnExactOrOfRow.holds Try.pinned (OpenSpec.ofChange fnExactOrOfSpec)

/-- ITS FALSE NEIGHBOUR: 'it returns false'. Refute it at one input. -/
def fnExactOrOfWrong : ChangeSpec := { name := "fnExactOrOf", fn := fun _ => fun
  | [d1, d2] => { results := [.lit (.bool false)], args := [d1, d2] }
  | _ => none }
def FnExactOrOfWrongFalsely : Prop := fnExactOrOfRow.holds Try.pinned (OpenSpec.ofChange fnExactOrOfWrong)

/-- 'laws.FnExactArityOf': WHATEVER THE INPUT: true; the input reads as it did. -/
def fnExactArityOfSpec : ChangeSpec := { name := "fnExactArityOf", fn := fun _ => fun
  | [d] => { results := [.lit (.bool true)], args := [d] }
  | _ => none }
def fnExactArityOfRow : OpenClaim := { program := "ytnckhddciedceaa", sum := "55d61eefc70056035277874cce5ed43867fbb01089268332a4bf43435c3b5381", func := "loop.example/g00590/laws.FnExactArityOf", spec := "fnExactArityOf", apart := false }
def FnExactArityOfSaid : Prop := fnExactArityOfRow.holds Try.pinned (OpenSpec.ofChange fnExactArityOfSpec)

/-- ITS FALSE NEIGHBOUR: 'it returns false'. Refute it at one input. -/
def fnExactArityOfWrong : ChangeSpec := { name := "fnExactArityOf", fn := fun _ => fun
  | [d] => { results := [.lit (.bool false)], args := [d] }
  | _ => none }
def FnExactArityOfWrongFalsely : Prop := fnExactArityOfRow.holds Try.pinned (OpenSpec.ofChange fnExactArityOfWrong)

/-- 'laws.FnExactIndexOf': WHATEVER THE INPUT: true; the input reads as it did. -/
def fnExactIndexOfSpec : ChangeSpec := { name := "fnExactIndexOf", fn := fun _ => fun
  | [d1, d2] => { results := [.lit (.bool true)], args := [d1, d2] }
  | _ => none }
def fnExactIndexOfRow : OpenClaim := { program := "ytnckhddciedceaa", sum := "55d61eefc70056035277874cce5ed43867fbb01089268332a4bf43435c3b5381", func := "loop.example/g00590/laws.FnExactIndexOf", spec := "fnExactIndexOf", apart := false }
def FnExactIndexOfSaid : Prop := fnExactIndexOfRow.holds Try.pinned (OpenSpec.ofChange fnExactIndexOfSpec)

/-- ITS FALSE NEIGHBOUR: 'it returns false'. Refute it at one input. -/
def fnExactIndexOfWrong : ChangeSpec := { name := "fnExactIndexOf", fn := fun _ => fun
  | [d1, d2] => { results := [.lit (.bool false)], args := [d1, d2] }
  | _ => none }
def FnExactIndexOfWrongFalsely : Prop := fnExactIndexOfRow.holds Try.pinned (OpenSpec.ofChange fnExactIndexOfWrong)

/-- 'laws.FnExactOppositeOf': WHATEVER THE INPUT: true; the input reads as it did. -/
def fnExactOppositeOfSpec : ChangeSpec := { name := "fnExactOppositeOf", fn := fun _ => fun
  | [d] => { results := [.lit (.bool true)], args := [d] }
  | _ => none }
def fnExactOppositeOfRow : OpenClaim := { program := "ytnckhddciedceaa", sum := "55d61eefc70056035277874cce5ed43867fbb01089268332a4bf43435c3b5381", func := "loop.example/g00590/laws.FnExactOppositeOf", spec := "fnExactOppositeOf", apart := false }
def FnExactOppositeOfSaid : Prop := fnExactOppositeOfRow.holds Try.pinned (OpenSpec.ofChange fnExactOppositeOfSpec)

/-- ITS FALSE NEIGHBOUR: 'it returns false'. Refute it at one input. -/
def fnExactOppositeOfWrong : ChangeSpec := { name := "fnExactOppositeOf", fn := fun _ => fun
  | [d] => { results := [.lit (.bool false)], args := [d] }
  | _ => none }
def FnExactOppositeOfWrongFalsely : Prop := fnExactOppositeOfRow.holds Try.pinned (OpenSpec.ofChange fnExactOppositeOfWrong)

/-- 'laws.FnExactPositions': WHATEVER THE INPUT: true; the input reads as it did. -/
def fnExactPositionsSpec : ChangeSpec := { name := "fnExactPositions", fn := fun _ => fun
  | [d1, d2] => { results := [.lit (.bool true)], args := [d1, d2] }
  | _ => none }
def fnExactPositionsRow : OpenClaim := { program := "ytnckhddciedceaa", sum := "55d61eefc70056035277874cce5ed43867fbb01089268332a4bf43435c3b5381", func := "loop.example/g00590/laws.FnExactPositions", spec := "fnExactPositions", apart := false }
def FnExactPositionsSaid : Prop := fnExactPositionsRow.holds Try.pinned (OpenSpec.ofChange fnExactPositionsSpec)

/-- ITS FALSE NEIGHBOUR: 'it returns false'. Refute it at one input. -/
def fnExactPositionsWrong : ChangeSpec := { name := "fnExactPositions", fn := fun _ => fun
  | [d1, d2] => { results := [.lit (.bool false)], args := [d1, d2] }
  | _ => none }
def FnExactPositionsWrongFalsely : Prop := fnExactPositionsRow.holds Try.pinned (OpenSpec.ofChange fnExactPositionsWrong)

/-- 'laws.FnExactSizeOf': WHATEVER THE INPUT: true; the input reads as it did. -/
def fnExactSizeOfSpec : ChangeSpec := { name := "fnExactSizeOf", fn := fun _ => fun
  | [d] => { results := [.lit (.bool true)], args := [d] }
  | _ => none }
def fnExactSizeOfRow : OpenClaim := { program := "ytnckhddciedceaa", sum := "55d61eefc70056035277874cce5ed43867fbb01089268332a4bf43435c3b5381", func := "loop.example/g00590/laws.FnExactSizeOf", spec := "fnExactSizeOf", recurses := true, loops := true, apart := false }
def FnExactSizeOfSaid : Prop := fnExactSizeOfRow.holds Try.pinned (OpenSpec.ofChange fnExactSizeOfSpec)

/-- ITS FALSE NEIGHBOUR: 'it returns false'. Refute it at one input. -/
def fnExactSizeOfWrong : ChangeSpec := { name := "fnExactSizeOf", fn := fun _ => fun
  | [d] => { results := [.lit (.bool false)], args := [d] }
  | _ => none }
def FnExactSizeOfWrongFalsely : Prop := fnExactSizeOfRow.holds Try.pinned (OpenSpec.ofChange fnExactSizeOfWrong)

/-- 'laws.FnExactEqualHeap': WHATEVER THE INPUT: true; the input reads as it did. -/
def fnExactEqualHeapSpec : ChangeSpec := { name := "fnExactEqualHeap", fn := fun _ => fun
  | [d1, d2] => { results := [.lit (.bool true)], args := [d1, d2] }
  | _ => none }
def fnExactEqualHeapRow : OpenClaim := { program := "ytnckhddciedceaa", sum := "55d61eefc70056035277874cce5ed43867fbb01089268332a4bf43435c3b5381", func := "loop.example/g00590/laws.FnExactEqualHeap", spec := "fnExactEqualHeap", apart := false }
def FnExactEqualHeapSaid : Prop := fnExactEqualHeapRow.holds Try.pinned (OpenSpec.ofChange fnExactEqualHeapSpec)

/-- ITS FALSE NEIGHBOUR: 'it returns false'. Refute it at one input. -/
def fnExactEqualHeapWrong : ChangeSpec := { name := "fnExactEqualHeap", fn := fun _ => fun
  | [d1, d2] => { results := [.lit (.bool false)], args := [d1, d2] }
  | _ => none }
def FnExactEqualHeapWrongFalsely : Prop := fnExactEqualHeapRow.holds Try.pinned (OpenSpec.ofChange fnExactEqualHeapWrong)

/-- 'laws.FnExactAreVars': WHATEVER THE INPUT: true; the input reads as it did. -/
def fnExactAreVarsSpec : ChangeSpec := { name := "fnExactAreVars", fn := fun _ => fun
  | [d] => { results := [.lit (.bool true)], args := [d] }
  | _ => none }
def fnExactAreVarsRow : OpenClaim := { program := "ytnckhddciedceaa", sum := "55d61eefc70056035277874cce5ed43867fbb01089268332a4bf43435c3b5381", func := "loop.example/g00590/laws.FnExactAreVars", spec := "fnExactAreVars", apart := false }
def FnExactAreVarsSaid : Prop := fnExactAreVarsRow.holds Try.pinned (OpenSpec.ofChange fnExactAreVarsSpec)

/-- ITS FALSE NEIGHBOUR: 'it returns false'. Refute it at one input. -/
def fnExactAreVarsWrong : ChangeSpec := { name := "fnExactAreVars", fn := fun _ => fun
  | [d] => { results := [.lit (.bool false)], args := [d] }
  | _ => none }
def FnExactAreVarsWrongFalsely : Prop := fnExactAreVarsRow.holds Try.pinned (OpenSpec.ofChange fnExactAreVarsWrong)

/-- 'laws.FnExactDepthOf': WHATEVER THE INPUT: true; the input reads as it did. -/
def fnExactDepthOfSpec : ChangeSpec := { name := "fnExactDepthOf", fn := fun _ => fun
  | [d] => { results := [.lit (.bool true)], args := [d] }
  | _ => none }
def fnExactDepthOfRow : OpenClaim := { program := "ytnckhddciedceaa", sum := "55d61eefc70056035277874cce5ed43867fbb01089268332a4bf43435c3b5381", func := "loop.example/g00590/laws.FnExactDepthOf", spec := "fnExactDepthOf", recurses := true, loops := true, apart := false }
def FnExactDepthOfSaid : Prop := fnExactDepthOfRow.holds Try.pinned (OpenSpec.ofChange fnExactDepthOfSpec)

/-- ITS FALSE NEIGHBOUR: 'it returns false'. Refute it at one input. -/
def fnExactDepthOfWrong : ChangeSpec := { name := "fnExactDepthOf", fn := fun _ => fun
  | [d] => { results := [.lit (.bool false)], args := [d] }
  | _ => none }
def FnExactDepthOfWrongFalsely : Prop := fnExactDepthOfRow.holds Try.pinned (OpenSpec.ofChange fnExactDepthOfWrong)

/-- 'laws.FnExactEqualFormula': WHATEVER THE INPUT: true; the input reads as it did. -/
def fnExactEqualFormulaSpec : ChangeSpec := { name := "fnExactEqualFormula", fn := fun _ => fun
  | [d1, d2] => { results := [.lit (.bool true)], args := [d1, d2] }
  | _ => none }
def fnExactEqualFormulaRow : OpenClaim := { program := "ytnckhddciedceaa", sum := "55d61eefc70056035277874cce5ed43867fbb01089268332a4bf43435c3b5381", func := "loop.example/g00590/laws.FnExactEqualFormula", spec := "fnExactEqualFormula", unfollowed := true, recurses := true, loops := true, apart := false }
def FnExactEqualFormulaSaid : Prop := fnExactEqualFormulaRow.holds Try.pinned (OpenSpec.ofChange fnExactEqualFormulaSpec)

/-- ITS FALSE NEIGHBOUR: 'it returns false'. Refute it at one input. -/
def fnExactEqualFormulaWrong : ChangeSpec := { name := "fnExactEqualFormula", fn := fun _ => fun
  | [d1, d2] => { results := [.lit (.bool false)], args := [d1, d2] }
  | _ => none }
def FnExactEqualFormulaWrongFalsely : Prop := fnExactEqualFormulaRow.holds Try.pinned (OpenSpec.ofChange fnExactEqualFormulaWrong)

/-- 'laws.FnExactEqualState': WHATEVER THE INPUT: true; the input reads as it did. -/
def fnExactEqualStateSpec : ChangeSpec := { name := "fnExactEqualState", fn := fun _ => fun
  | [d1, d2] => { results := [.lit (.bool true)], args := [d1, d2] }
  | _ => none }
def fnExactEqualStateRow : OpenClaim := { program := "ytnckhddciedceaa", sum := "55d61eefc70056035277874cce5ed43867fbb01089268332a4bf43435c3b5381", func := "loop.example/g00590/laws.FnExactEqualState", spec := "fnExactEqualState", apart := false }
def FnExactEqualStateSaid : Prop := fnExactEqualStateRow.holds Try.pinned (OpenSpec.ofChange fnExactEqualStateSpec)

/-- ITS FALSE NEIGHBOUR: 'it returns false'. Refute it at one input. -/
def fnExactEqualStateWrong : ChangeSpec := { name := "fnExactEqualState", fn := fun _ => fun
  | [d1, d2] => { results := [.lit (.bool false)], args := [d1, d2] }
  | _ => none }
def FnExactEqualStateWrongFalsely : Prop := fnExactEqualStateRow.holds Try.pinned (OpenSpec.ofChange fnExactEqualStateWrong)

/-- 'laws.FnExactJoin': WHATEVER THE INPUT: true; the input reads as it did. -/
def fnExactJoinSpec : ChangeSpec := { name := "fnExactJoin", fn := fun _ => fun
  | [d1, d2] => { results := [.lit (.bool true)], args := [d1, d2] }
  | _ => none }
def fnExactJoinRow : OpenClaim := { program := "ytnckhddciedceaa", sum := "55d61eefc70056035277874cce5ed43867fbb01089268332a4bf43435c3b5381", func := "loop.example/g00590/laws.FnExactJoin", spec := "fnExactJoin", inPlace := ["internal/abi.NoEscape", "internal/bytealg.MakeNoZero"], apart := false }
def FnExactJoinSaid : Prop := fnExactJoinRow.holds Try.pinned (OpenSpec.ofChange fnExactJoinSpec)

/-- ITS FALSE NEIGHBOUR: 'it returns false'. Refute it at one input. -/
def fnExactJoinWrong : ChangeSpec := { name := "fnExactJoin", fn := fun _ => fun
  | [d1, d2] => { results := [.lit (.bool false)], args := [d1, d2] }
  | _ => none }
def FnExactJoinWrongFalsely : Prop := fnExactJoinRow.holds Try.pinned (OpenSpec.ofChange fnExactJoinWrong)

/- THE SECOND FORM. 'bulk': how many values and letters a reading holds, each counted each time it is reached (what is shared counts as often as it is met; a slice's spare places count too). A statement '..UptoSaid' is the law's where the arguments, and the package variables that the reading takes, are together of bulk at most 1048576: NARROWER than '..Said'. Prove '..Said' where nothing that the law and all that it calls make is longer than what came in: it says more and counts as full. Else prove '..UptoSaid'. A law counts once. -/
mutual
def uptoBulk {H : Type} : DataW H → Nat
  | .lit (.string bytes) => bytes.length + 1
  | .lit _ => 1
  | .nil => 1
  | .ptr d => uptoBulk d + 1
  | .slice elems spare => uptoBulkAll elems + uptoBulkAll spare + 1
  | .agg parts => uptoBulkAll parts + 1
  | .iface _ d => uptoBulk d + 1
  | .map entries => uptoBulkEntries entries + 1
  | .held _ => 1
def uptoBulkAll {H : Type} : List (DataW H) → Nat
  | [] => 0
  | d :: r => uptoBulk d + uptoBulkAll r
def uptoBulkEntries {H : Type} : List (Lit × DataW H) → Nat
  | [] => 0
  | x :: r => uptoBulkEntry x + uptoBulkEntries r
def uptoBulkEntry {H : Type} : Lit × DataW H → Nat
  | (.string bytes, d) => bytes.length + uptoBulk d + 1
  | (_, d) => uptoBulk d + 1
 end
def uptoSmall : (H : Type) → List (DataW H) → Bool := fun _ ds => decide (uptoBulkAll ds ≤ 1048576)
def OpenSpec.upto (s : _root_.Go.ChangeSpec) : _root_.Go.OpenSpec := { _root_.Go.OpenSpec.ofChange s with cond := some uptoSmall }

/-- 'laws.FnExactOrOf', WHERE WHAT IT READS IS OF BULK AT MOST 1048576: true; the input reads as it did. -/
def fnExactOrOfUptoRow : OpenClaim := { program := "ytnckhddciedceaa", sum := "55d61eefc70056035277874cce5ed43867fbb01089268332a4bf43435c3b5381", func := "loop.example/g00590/laws.FnExactOrOf", spec := "fnExactOrOf", apart := false, narrowed := true }
def FnExactOrOfUptoSaid : Prop := fnExactOrOfUptoRow.holds Try.pinned (OpenSpec.upto fnExactOrOfSpec)

/-- 'laws.FnExactArityOf', WHERE WHAT IT READS IS OF BULK AT MOST 1048576: true; the input reads as it did. -/
def fnExactArityOfUptoRow : OpenClaim := { program := "ytnckhddciedceaa", sum := "55d61eefc70056035277874cce5ed43867fbb01089268332a4bf43435c3b5381", func := "loop.example/g00590/laws.FnExactArityOf", spec := "fnExactArityOf", apart := false, narrowed := true }
def FnExactArityOfUptoSaid : Prop := fnExactArityOfUptoRow.holds Try.pinned (OpenSpec.upto fnExactArityOfSpec)

/-- 'laws.FnExactIndexOf', WHERE WHAT IT READS IS OF BULK AT MOST 1048576: true; the input reads as it did. -/
def fnExactIndexOfUptoRow : OpenClaim := { program := "ytnckhddciedceaa", sum := "55d61eefc70056035277874cce5ed43867fbb01089268332a4bf43435c3b5381", func := "loop.example/g00590/laws.FnExactIndexOf", spec := "fnExactIndexOf", apart := false, narrowed := true }
def FnExactIndexOfUptoSaid : Prop := fnExactIndexOfUptoRow.holds Try.pinned (OpenSpec.upto fnExactIndexOfSpec)

/-- 'laws.FnExactOppositeOf', WHERE WHAT IT READS IS OF BULK AT MOST 1048576: true; the input reads as it did. -/
def fnExactOppositeOfUptoRow : OpenClaim := { program := "ytnckhddciedceaa", sum := "55d61eefc70056035277874cce5ed43867fbb01089268332a4bf43435c3b5381", func := "loop.example/g00590/laws.FnExactOppositeOf", spec := "fnExactOppositeOf", apart := false, narrowed := true }
def FnExactOppositeOfUptoSaid : Prop := fnExactOppositeOfUptoRow.holds Try.pinned (OpenSpec.upto fnExactOppositeOfSpec)

/-- 'laws.FnExactPositions', WHERE WHAT IT READS IS OF BULK AT MOST 1048576: true; the input reads as it did. -/
def fnExactPositionsUptoRow : OpenClaim := { program := "ytnckhddciedceaa", sum := "55d61eefc70056035277874cce5ed43867fbb01089268332a4bf43435c3b5381", func := "loop.example/g00590/laws.FnExactPositions", spec := "fnExactPositions", apart := false, narrowed := true }
def FnExactPositionsUptoSaid : Prop := fnExactPositionsUptoRow.holds Try.pinned (OpenSpec.upto fnExactPositionsSpec)

/-- 'laws.FnExactSizeOf', WHERE WHAT IT READS IS OF BULK AT MOST 1048576: true; the input reads as it did. -/
def fnExactSizeOfUptoRow : OpenClaim := { program := "ytnckhddciedceaa", sum := "55d61eefc70056035277874cce5ed43867fbb01089268332a4bf43435c3b5381", func := "loop.example/g00590/laws.FnExactSizeOf", spec := "fnExactSizeOf", recurses := true, loops := true, apart := false, narrowed := true }
def FnExactSizeOfUptoSaid : Prop := fnExactSizeOfUptoRow.holds Try.pinned (OpenSpec.upto fnExactSizeOfSpec)

/-- 'laws.FnExactEqualHeap', WHERE WHAT IT READS IS OF BULK AT MOST 1048576: true; the input reads as it did. -/
def fnExactEqualHeapUptoRow : OpenClaim := { program := "ytnckhddciedceaa", sum := "55d61eefc70056035277874cce5ed43867fbb01089268332a4bf43435c3b5381", func := "loop.example/g00590/laws.FnExactEqualHeap", spec := "fnExactEqualHeap", apart := false, narrowed := true }
def FnExactEqualHeapUptoSaid : Prop := fnExactEqualHeapUptoRow.holds Try.pinned (OpenSpec.upto fnExactEqualHeapSpec)

/-- 'laws.FnExactAreVars', WHERE WHAT IT READS IS OF BULK AT MOST 1048576: true; the input reads as it did. -/
def fnExactAreVarsUptoRow : OpenClaim := { program := "ytnckhddciedceaa", sum := "55d61eefc70056035277874cce5ed43867fbb01089268332a4bf43435c3b5381", func := "loop.example/g00590/laws.FnExactAreVars", spec := "fnExactAreVars", apart := false, narrowed := true }
def FnExactAreVarsUptoSaid : Prop := fnExactAreVarsUptoRow.holds Try.pinned (OpenSpec.upto fnExactAreVarsSpec)

/-- 'laws.FnExactDepthOf', WHERE WHAT IT READS IS OF BULK AT MOST 1048576: true; the input reads as it did. -/
def fnExactDepthOfUptoRow : OpenClaim := { program := "ytnckhddciedceaa", sum := "55d61eefc70056035277874cce5ed43867fbb01089268332a4bf43435c3b5381", func := "loop.example/g00590/laws.FnExactDepthOf", spec := "fnExactDepthOf", recurses := true, loops := true, apart := false, narrowed := true }
def FnExactDepthOfUptoSaid : Prop := fnExactDepthOfUptoRow.holds Try.pinned (OpenSpec.upto fnExactDepthOfSpec)

/-- 'laws.FnExactEqualFormula', WHERE WHAT IT READS IS OF BULK AT MOST 1048576: true; the input reads as it did. -/
def fnExactEqualFormulaUptoRow : OpenClaim := { program := "ytnckhddciedceaa", sum := "55d61eefc70056035277874cce5ed43867fbb01089268332a4bf43435c3b5381", func := "loop.example/g00590/laws.FnExactEqualFormula", spec := "fnExactEqualFormula", unfollowed := true, recurses := true, loops := true, apart := false, narrowed := true }
def FnExactEqualFormulaUptoSaid : Prop := fnExactEqualFormulaUptoRow.holds Try.pinned (OpenSpec.upto fnExactEqualFormulaSpec)

/-- 'laws.FnExactEqualState', WHERE WHAT IT READS IS OF BULK AT MOST 1048576: true; the input reads as it did. -/
def fnExactEqualStateUptoRow : OpenClaim := { program := "ytnckhddciedceaa", sum := "55d61eefc70056035277874cce5ed43867fbb01089268332a4bf43435c3b5381", func := "loop.example/g00590/laws.FnExactEqualState", spec := "fnExactEqualState", apart := false, narrowed := true }
def FnExactEqualStateUptoSaid : Prop := fnExactEqualStateUptoRow.holds Try.pinned (OpenSpec.upto fnExactEqualStateSpec)

/-- 'laws.FnExactJoin', WHERE WHAT IT READS IS OF BULK AT MOST 1048576: true; the input reads as it did. -/
def fnExactJoinUptoRow : OpenClaim := { program := "ytnckhddciedceaa", sum := "55d61eefc70056035277874cce5ed43867fbb01089268332a4bf43435c3b5381", func := "loop.example/g00590/laws.FnExactJoin", spec := "fnExactJoin", inPlace := ["internal/abi.NoEscape", "internal/bytealg.MakeNoZero"], apart := false, narrowed := true }
def FnExactJoinUptoSaid : Prop := fnExactJoinUptoRow.holds Try.pinned (OpenSpec.upto fnExactJoinSpec)

end Rows
end Go.Proofs.Ytnckhddciedceaa
