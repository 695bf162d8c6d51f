/-
  NARROWER THAN 'FOR EVERY INPUT', by the rows' own cells (each row's printed sentence says how): FnExactIsFormula: loops.
  DERIVED. THE GIVEN ROWS OF THIS SEAT. 11 by the template 'for every input the law returns true; each argument reads behind the call as it read before'; 0 by the template 'total and deterministic' (their statements: YtfmepkfigdobaaaTotals.lean).
  GIVEN WITH THE SEED: the statements are not yours to turn. If you find one false, say at which input.
  Laid BY PROGRAM, IN A SANDBOX (cutbox-rows.mjs): the forced cells as the released guide's own fill.sh prints them over the translation d7c3637a8fc45b53… (all of the seat's roots in one cut). By AI agents, Wed Nov 11 2026. No macro, syntax, notation, axiom, sorry.
-/
import Derived.Test.YtfmepkfigdobaaaChecked
import GoSem.Claim
import GoSem.ClaimJoined
import GoSem.ClaimMapViews
import Derived.JoinedTies
import Derived.KernelRfl
namespace Go.Proofs.Ytfmepkfigdobaaa
/- THE CELL 'sum', in the pinned program and in every row, IS THE sha256 OF THE DUMP (.gsa) THAT YtfmepkfigdobaaaProg.lean LOADS. Nothing in Lean hashes anything: it is a label: what it is worth is what the hold of that sum in a sandbox is worth. -/
noncomputable def Try.pinned : Pinned := { name := "ytfmepkfigdobaaa", sum := "d7c3637a8fc45b53d132f782be51d44615ff8a91bd6dcf24a94706884438ac85", checked := Try.checked }
namespace Rows
def none {H : Type} : Left H := { results := [], args := [] }

/-- 'laws.FnExactFollowed': WHATEVER THE INPUT: true; the input reads as it did. -/
def fnExactFollowedSpec : ChangeSpec := { name := "fnExactFollowed", fn := fun _ => fun
  | [d1, d2] => { results := [.lit (.bool true)], args := [d1, d2] }
  | _ => none }
def fnExactFollowedRow : OpenClaim := { program := "ytfmepkfigdobaaa", sum := "d7c3637a8fc45b53d132f782be51d44615ff8a91bd6dcf24a94706884438ac85", func := "loop.example/g00590/laws.FnExactFollowed", spec := "fnExactFollowed", apart := false }
def FnExactFollowedSaid : Prop := fnExactFollowedRow.holds Try.pinned (OpenSpec.ofChange fnExactFollowedSpec)

/-- ITS FALSE NEIGHBOUR: 'it returns false'. Refute it at one input. -/
def fnExactFollowedWrong : ChangeSpec := { name := "fnExactFollowed", fn := fun _ => fun
  | [d1, d2] => { results := [.lit (.bool false)], args := [d1, d2] }
  | _ => none }
def FnExactFollowedWrongFalsely : Prop := fnExactFollowedRow.holds Try.pinned (OpenSpec.ofChange fnExactFollowedWrong)

/-- 'laws.FnKleene': WHATEVER THE INPUT: true; the input reads as it did. -/
def fnKleeneSpec : ChangeSpec := { name := "fnKleene", fn := fun _ => fun
  | [d] => { results := [.lit (.bool true)], args := [d] }
  | _ => none }
def fnKleeneRow : OpenClaim := { program := "ytfmepkfigdobaaa", sum := "d7c3637a8fc45b53d132f782be51d44615ff8a91bd6dcf24a94706884438ac85", func := "loop.example/g00590/laws.FnKleene", spec := "fnKleene", apart := false }
def FnKleeneSaid : Prop := fnKleeneRow.holds Try.pinned (OpenSpec.ofChange fnKleeneSpec)

/-- ITS FALSE NEIGHBOUR: 'it returns false'. Refute it at one input. -/
def fnKleeneWrong : ChangeSpec := { name := "fnKleene", fn := fun _ => fun
  | [d] => { results := [.lit (.bool false)], args := [d] }
  | _ => none }
def FnKleeneWrongFalsely : Prop := fnKleeneRow.holds Try.pinned (OpenSpec.ofChange fnKleeneWrong)

/-- 'laws.FnExactNextOf': WHATEVER THE INPUT: true; the input reads as it did. -/
def fnExactNextOfSpec : ChangeSpec := { name := "fnExactNextOf", fn := fun _ => fun
  | [d1, d2, d3] => { results := [.lit (.bool true)], args := [d1, d2, d3] }
  | _ => none }
def fnExactNextOfRow : OpenClaim := { program := "ytfmepkfigdobaaa", sum := "d7c3637a8fc45b53d132f782be51d44615ff8a91bd6dcf24a94706884438ac85", func := "loop.example/g00590/laws.FnExactNextOf", spec := "fnExactNextOf", apart := false }
def FnExactNextOfSaid : Prop := fnExactNextOfRow.holds Try.pinned (OpenSpec.ofChange fnExactNextOfSpec)

/-- ITS FALSE NEIGHBOUR: 'it returns false'. Refute it at one input. -/
def fnExactNextOfWrong : ChangeSpec := { name := "fnExactNextOf", fn := fun _ => fun
  | [d1, d2, d3] => { results := [.lit (.bool false)], args := [d1, d2, d3] }
  | _ => none }
def FnExactNextOfWrongFalsely : Prop := fnExactNextOfRow.holds Try.pinned (OpenSpec.ofChange fnExactNextOfWrong)

/-- 'laws.FnNames': WHATEVER THE INPUT: true; the input reads as it did. -/
def fnNamesSpec : ChangeSpec := { name := "fnNames", fn := fun _ => fun
  | [d] => { results := [.lit (.bool true)], args := [d] }
  | _ => none }
def fnNamesRow : OpenClaim := { program := "ytfmepkfigdobaaa", sum := "d7c3637a8fc45b53d132f782be51d44615ff8a91bd6dcf24a94706884438ac85", func := "loop.example/g00590/laws.FnNames", spec := "fnNames", apart := false }
def FnNamesSaid : Prop := fnNamesRow.holds Try.pinned (OpenSpec.ofChange fnNamesSpec)

/-- ITS FALSE NEIGHBOUR: 'it returns false'. Refute it at one input. -/
def fnNamesWrong : ChangeSpec := { name := "fnNames", fn := fun _ => fun
  | [d] => { results := [.lit (.bool false)], args := [d] }
  | _ => none }
def FnNamesWrongFalsely : Prop := fnNamesRow.holds Try.pinned (OpenSpec.ofChange fnNamesWrong)

/-- 'laws.FnExactIsStmt': WHATEVER THE INPUT: true; the input reads as it did. -/
def fnExactIsStmtSpec : ChangeSpec := { name := "fnExactIsStmt", fn := fun _ => fun
  | [d1, d2] => { results := [.lit (.bool true)], args := [d1, d2] }
  | _ => none }
def fnExactIsStmtRow : OpenClaim := { program := "ytfmepkfigdobaaa", sum := "d7c3637a8fc45b53d132f782be51d44615ff8a91bd6dcf24a94706884438ac85", func := "loop.example/g00590/laws.FnExactIsStmt", spec := "fnExactIsStmt", unfollowed := true, recurses := true, apart := false }
def FnExactIsStmtSaid : Prop := fnExactIsStmtRow.holds Try.pinned (OpenSpec.ofChange fnExactIsStmtSpec)

/-- ITS FALSE NEIGHBOUR: 'it returns false'. Refute it at one input. -/
def fnExactIsStmtWrong : ChangeSpec := { name := "fnExactIsStmt", fn := fun _ => fun
  | [d1, d2] => { results := [.lit (.bool false)], args := [d1, d2] }
  | _ => none }
def FnExactIsStmtWrongFalsely : Prop := fnExactIsStmtRow.holds Try.pinned (OpenSpec.ofChange fnExactIsStmtWrong)

/-- 'laws.FnExactIsStructure': WHATEVER THE INPUT: true; the input reads as it did. -/
def fnExactIsStructureSpec : ChangeSpec := { name := "fnExactIsStructure", fn := fun _ => fun
  | [d1, d2] => { results := [.lit (.bool true)], args := [d1, d2] }
  | _ => none }
def fnExactIsStructureRow : OpenClaim := { program := "ytfmepkfigdobaaa", sum := "d7c3637a8fc45b53d132f782be51d44615ff8a91bd6dcf24a94706884438ac85", func := "loop.example/g00590/laws.FnExactIsStructure", spec := "fnExactIsStructure", unfollowed := true, recurses := true, apart := false }
def FnExactIsStructureSaid : Prop := fnExactIsStructureRow.holds Try.pinned (OpenSpec.ofChange fnExactIsStructureSpec)

/-- ITS FALSE NEIGHBOUR: 'it returns false'. Refute it at one input. -/
def fnExactIsStructureWrong : ChangeSpec := { name := "fnExactIsStructure", fn := fun _ => fun
  | [d1, d2] => { results := [.lit (.bool false)], args := [d1, d2] }
  | _ => none }
def FnExactIsStructureWrongFalsely : Prop := fnExactIsStructureRow.holds Try.pinned (OpenSpec.ofChange fnExactIsStructureWrong)

/-- 'laws.FnExactIsFormula': WHATEVER THE INPUT: true; the input reads as it did. -/
def fnExactIsFormulaSpec : ChangeSpec := { name := "fnExactIsFormula", fn := fun _ => fun
  | [d1, d2] => { results := [.lit (.bool true)], args := [d1, d2] }
  | _ => none }
def fnExactIsFormulaRow : OpenClaim := { program := "ytfmepkfigdobaaa", sum := "d7c3637a8fc45b53d132f782be51d44615ff8a91bd6dcf24a94706884438ac85", func := "loop.example/g00590/laws.FnExactIsFormula", spec := "fnExactIsFormula", unfollowed := true, recurses := true, loops := true, apart := false }
def FnExactIsFormulaSaid : Prop := fnExactIsFormulaRow.holds Try.pinned (OpenSpec.ofChange fnExactIsFormulaSpec)

/-- ITS FALSE NEIGHBOUR: 'it returns false'. Refute it at one input. -/
def fnExactIsFormulaWrong : ChangeSpec := { name := "fnExactIsFormula", fn := fun _ => fun
  | [d1, d2] => { results := [.lit (.bool false)], args := [d1, d2] }
  | _ => none }
def FnExactIsFormulaWrongFalsely : Prop := fnExactIsFormulaRow.holds Try.pinned (OpenSpec.ofChange fnExactIsFormulaWrong)

/-- 'laws.FnExactEqualProgram': WHATEVER THE INPUT: true; the input reads as it did. -/
def fnExactEqualProgramSpec : ChangeSpec := { name := "fnExactEqualProgram", fn := fun _ => fun
  | [d1, d2] => { results := [.lit (.bool true)], args := [d1, d2] }
  | _ => none }
def fnExactEqualProgramRow : OpenClaim := { program := "ytfmepkfigdobaaa", sum := "d7c3637a8fc45b53d132f782be51d44615ff8a91bd6dcf24a94706884438ac85", func := "loop.example/g00590/laws.FnExactEqualProgram", spec := "fnExactEqualProgram", apart := false }
def FnExactEqualProgramSaid : Prop := fnExactEqualProgramRow.holds Try.pinned (OpenSpec.ofChange fnExactEqualProgramSpec)

/-- ITS FALSE NEIGHBOUR: 'it returns false'. Refute it at one input. -/
def fnExactEqualProgramWrong : ChangeSpec := { name := "fnExactEqualProgram", fn := fun _ => fun
  | [d1, d2] => { results := [.lit (.bool false)], args := [d1, d2] }
  | _ => none }
def FnExactEqualProgramWrongFalsely : Prop := fnExactEqualProgramRow.holds Try.pinned (OpenSpec.ofChange fnExactEqualProgramWrong)

/-- 'laws.FnStmts': WHATEVER THE INPUT: true; the input reads as it did. -/
def fnStmtsSpec : ChangeSpec := { name := "fnStmts", fn := fun _ => fun
  | [d] => { results := [.lit (.bool true)], args := [d] }
  | _ => none }
def fnStmtsRow : OpenClaim := { program := "ytfmepkfigdobaaa", sum := "d7c3637a8fc45b53d132f782be51d44615ff8a91bd6dcf24a94706884438ac85", func := "loop.example/g00590/laws.FnStmts", spec := "fnStmts", unfollowed := true, recurses := true, apart := false }
def FnStmtsSaid : Prop := fnStmtsRow.holds Try.pinned (OpenSpec.ofChange fnStmtsSpec)

/-- ITS FALSE NEIGHBOUR: 'it returns false'. Refute it at one input. -/
def fnStmtsWrong : ChangeSpec := { name := "fnStmts", fn := fun _ => fun
  | [d] => { results := [.lit (.bool false)], args := [d] }
  | _ => none }
def FnStmtsWrongFalsely : Prop := fnStmtsRow.holds Try.pinned (OpenSpec.ofChange fnStmtsWrong)

/-- 'laws.FnExactEdgesFrom': WHATEVER THE INPUT: true; the input reads as it did. -/
def fnExactEdgesFromSpec : ChangeSpec := { name := "fnExactEdgesFrom", fn := fun _ => fun
  | [d1, d2] => { results := [.lit (.bool true)], args := [d1, d2] }
  | _ => none }
def fnExactEdgesFromRow : OpenClaim := { program := "ytfmepkfigdobaaa", sum := "d7c3637a8fc45b53d132f782be51d44615ff8a91bd6dcf24a94706884438ac85", func := "loop.example/g00590/laws.FnExactEdgesFrom", spec := "fnExactEdgesFrom", apart := false }
def FnExactEdgesFromSaid : Prop := fnExactEdgesFromRow.holds Try.pinned (OpenSpec.ofChange fnExactEdgesFromSpec)

/-- ITS FALSE NEIGHBOUR: 'it returns false'. Refute it at one input. -/
def fnExactEdgesFromWrong : ChangeSpec := { name := "fnExactEdgesFrom", fn := fun _ => fun
  | [d1, d2] => { results := [.lit (.bool false)], args := [d1, d2] }
  | _ => none }
def FnExactEdgesFromWrongFalsely : Prop := fnExactEdgesFromRow.holds Try.pinned (OpenSpec.ofChange fnExactEdgesFromWrong)

/-- 'laws.FnExactIsProgram': WHATEVER THE INPUT: true; the input reads as it did. -/
def fnExactIsProgramSpec : ChangeSpec := { name := "fnExactIsProgram", fn := fun _ => fun
  | [d] => { results := [.lit (.bool true)], args := [d] }
  | _ => none }
def fnExactIsProgramRow : OpenClaim := { program := "ytfmepkfigdobaaa", sum := "d7c3637a8fc45b53d132f782be51d44615ff8a91bd6dcf24a94706884438ac85", func := "loop.example/g00590/laws.FnExactIsProgram", spec := "fnExactIsProgram", unfollowed := true, recurses := true, apart := false }
def FnExactIsProgramSaid : Prop := fnExactIsProgramRow.holds Try.pinned (OpenSpec.ofChange fnExactIsProgramSpec)

/-- ITS FALSE NEIGHBOUR: 'it returns false'. Refute it at one input. -/
def fnExactIsProgramWrong : ChangeSpec := { name := "fnExactIsProgram", fn := fun _ => fun
  | [d] => { results := [.lit (.bool false)], args := [d] }
  | _ => none }
def FnExactIsProgramWrongFalsely : Prop := fnExactIsProgramRow.holds Try.pinned (OpenSpec.ofChange fnExactIsProgramWrong)

/- THE SECOND FORM. 'bulk': how many values and letters a reading holds, each counted each time it is reached (what is shared counts as often as it is met; a slice's spare places count too). A statement '..UptoSaid' is the law's where the arguments, and the package variables that the reading takes, are together of bulk at most 1048576: NARROWER than '..Said'. Prove '..Said' where nothing that the law and all that it calls make is longer than what came in: it says more and counts as full. Else prove '..UptoSaid'. A law counts once. -/
mutual
def uptoBulk {H : Type} : DataW H → Nat
  | .lit (.string bytes) => bytes.length + 1
  | .lit _ => 1
  | .nil => 1
  | .ptr d => uptoBulk d + 1
  | .slice elems spare => uptoBulkAll elems + uptoBulkAll spare + 1
  | .agg parts => uptoBulkAll parts + 1
  | .iface _ d => uptoBulk d + 1
  | .map entries => uptoBulkEntries entries + 1
  | .held _ => 1
def uptoBulkAll {H : Type} : List (DataW H) → Nat
  | [] => 0
  | d :: r => uptoBulk d + uptoBulkAll r
def uptoBulkEntries {H : Type} : List (Lit × DataW H) → Nat
  | [] => 0
  | x :: r => uptoBulkEntry x + uptoBulkEntries r
def uptoBulkEntry {H : Type} : Lit × DataW H → Nat
  | (.string bytes, d) => bytes.length + uptoBulk d + 1
  | (_, d) => uptoBulk d + 1
 end
def uptoSmall : (H : Type) → List (DataW H) → Bool := fun _ ds => decide (uptoBulkAll ds ≤ 1048576)
def OpenSpec.upto (s : _root_.Go.ChangeSpec) : _root_.Go.OpenSpec := { _root_.Go.OpenSpec.ofChange s with cond := some uptoSmall }

/-- 'laws.FnExactFollowed', WHERE WHAT IT READS IS OF BULK AT MOST 1048576: true; the input reads as it did. -/
def fnExactFollowedUptoRow : OpenClaim := { program := "ytfmepkfigdobaaa", sum := "d7c3637a8fc45b53d132f782be51d44615ff8a91bd6dcf24a94706884438ac85", func := "loop.example/g00590/laws.FnExactFollowed", spec := "fnExactFollowed", apart := false, narrowed := true }
def FnExactFollowedUptoSaid : Prop := fnExactFollowedUptoRow.holds Try.pinned (OpenSpec.upto fnExactFollowedSpec)

/-- 'laws.FnKleene', WHERE WHAT IT READS IS OF BULK AT MOST 1048576: true; the input reads as it did. -/
def fnKleeneUptoRow : OpenClaim := { program := "ytfmepkfigdobaaa", sum := "d7c3637a8fc45b53d132f782be51d44615ff8a91bd6dcf24a94706884438ac85", func := "loop.example/g00590/laws.FnKleene", spec := "fnKleene", apart := false, narrowed := true }
def FnKleeneUptoSaid : Prop := fnKleeneUptoRow.holds Try.pinned (OpenSpec.upto fnKleeneSpec)

/-- 'laws.FnExactNextOf', WHERE WHAT IT READS IS OF BULK AT MOST 1048576: true; the input reads as it did. -/
def fnExactNextOfUptoRow : OpenClaim := { program := "ytfmepkfigdobaaa", sum := "d7c3637a8fc45b53d132f782be51d44615ff8a91bd6dcf24a94706884438ac85", func := "loop.example/g00590/laws.FnExactNextOf", spec := "fnExactNextOf", apart := false, narrowed := true }
def FnExactNextOfUptoSaid : Prop := fnExactNextOfUptoRow.holds Try.pinned (OpenSpec.upto fnExactNextOfSpec)

/-- 'laws.FnNames', WHERE WHAT IT READS IS OF BULK AT MOST 1048576: true; the input reads as it did. -/
def fnNamesUptoRow : OpenClaim := { program := "ytfmepkfigdobaaa", sum := "d7c3637a8fc45b53d132f782be51d44615ff8a91bd6dcf24a94706884438ac85", func := "loop.example/g00590/laws.FnNames", spec := "fnNames", apart := false, narrowed := true }
def FnNamesUptoSaid : Prop := fnNamesUptoRow.holds Try.pinned (OpenSpec.upto fnNamesSpec)

/-- 'laws.FnExactIsStmt', WHERE WHAT IT READS IS OF BULK AT MOST 1048576: true; the input reads as it did. -/
def fnExactIsStmtUptoRow : OpenClaim := { program := "ytfmepkfigdobaaa", sum := "d7c3637a8fc45b53d132f782be51d44615ff8a91bd6dcf24a94706884438ac85", func := "loop.example/g00590/laws.FnExactIsStmt", spec := "fnExactIsStmt", unfollowed := true, recurses := true, apart := false, narrowed := true }
def FnExactIsStmtUptoSaid : Prop := fnExactIsStmtUptoRow.holds Try.pinned (OpenSpec.upto fnExactIsStmtSpec)

/-- 'laws.FnExactIsStructure', WHERE WHAT IT READS IS OF BULK AT MOST 1048576: true; the input reads as it did. -/
def fnExactIsStructureUptoRow : OpenClaim := { program := "ytfmepkfigdobaaa", sum := "d7c3637a8fc45b53d132f782be51d44615ff8a91bd6dcf24a94706884438ac85", func := "loop.example/g00590/laws.FnExactIsStructure", spec := "fnExactIsStructure", unfollowed := true, recurses := true, apart := false, narrowed := true }
def FnExactIsStructureUptoSaid : Prop := fnExactIsStructureUptoRow.holds Try.pinned (OpenSpec.upto fnExactIsStructureSpec)

/-- 'laws.FnExactIsFormula', WHERE WHAT IT READS IS OF BULK AT MOST 1048576: true; the input reads as it did. -/
def fnExactIsFormulaUptoRow : OpenClaim := { program := "ytfmepkfigdobaaa", sum := "d7c3637a8fc45b53d132f782be51d44615ff8a91bd6dcf24a94706884438ac85", func := "loop.example/g00590/laws.FnExactIsFormula", spec := "fnExactIsFormula", unfollowed := true, recurses := true, loops := true, apart := false, narrowed := true }
def FnExactIsFormulaUptoSaid : Prop := fnExactIsFormulaUptoRow.holds Try.pinned (OpenSpec.upto fnExactIsFormulaSpec)

/-- 'laws.FnExactEqualProgram', WHERE WHAT IT READS IS OF BULK AT MOST 1048576: true; the input reads as it did. -/
def fnExactEqualProgramUptoRow : OpenClaim := { program := "ytfmepkfigdobaaa", sum := "d7c3637a8fc45b53d132f782be51d44615ff8a91bd6dcf24a94706884438ac85", func := "loop.example/g00590/laws.FnExactEqualProgram", spec := "fnExactEqualProgram", apart := false, narrowed := true }
def FnExactEqualProgramUptoSaid : Prop := fnExactEqualProgramUptoRow.holds Try.pinned (OpenSpec.upto fnExactEqualProgramSpec)

/-- 'laws.FnStmts', WHERE WHAT IT READS IS OF BULK AT MOST 1048576: true; the input reads as it did. -/
def fnStmtsUptoRow : OpenClaim := { program := "ytfmepkfigdobaaa", sum := "d7c3637a8fc45b53d132f782be51d44615ff8a91bd6dcf24a94706884438ac85", func := "loop.example/g00590/laws.FnStmts", spec := "fnStmts", unfollowed := true, recurses := true, apart := false, narrowed := true }
def FnStmtsUptoSaid : Prop := fnStmtsUptoRow.holds Try.pinned (OpenSpec.upto fnStmtsSpec)

/-- 'laws.FnExactEdgesFrom', WHERE WHAT IT READS IS OF BULK AT MOST 1048576: true; the input reads as it did. -/
def fnExactEdgesFromUptoRow : OpenClaim := { program := "ytfmepkfigdobaaa", sum := "d7c3637a8fc45b53d132f782be51d44615ff8a91bd6dcf24a94706884438ac85", func := "loop.example/g00590/laws.FnExactEdgesFrom", spec := "fnExactEdgesFrom", apart := false, narrowed := true }
def FnExactEdgesFromUptoSaid : Prop := fnExactEdgesFromUptoRow.holds Try.pinned (OpenSpec.upto fnExactEdgesFromSpec)

/-- 'laws.FnExactIsProgram', WHERE WHAT IT READS IS OF BULK AT MOST 1048576: true; the input reads as it did. -/
def fnExactIsProgramUptoRow : OpenClaim := { program := "ytfmepkfigdobaaa", sum := "d7c3637a8fc45b53d132f782be51d44615ff8a91bd6dcf24a94706884438ac85", func := "loop.example/g00590/laws.FnExactIsProgram", spec := "fnExactIsProgram", unfollowed := true, recurses := true, apart := false, narrowed := true }
def FnExactIsProgramUptoSaid : Prop := fnExactIsProgramUptoRow.holds Try.pinned (OpenSpec.upto fnExactIsProgramSpec)

end Rows
end Go.Proofs.Ytfmepkfigdobaaa
