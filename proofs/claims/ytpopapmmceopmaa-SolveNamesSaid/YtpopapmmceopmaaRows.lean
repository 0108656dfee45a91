/-
  No cell of these rows narrows 'for every input' (looked for: loops, veiled, ifaces, maps, wideKeys, modest, calm, conditions, laid).
  DERIVED. THE GIVEN ROWS OF THIS SEAT. 12 by the template 'for every input the law returns true; each argument reads behind the call as it read before'; 0 by the template 'total and deterministic' (their statements: YtpopapmmceopmaaTotals.lean).
  GIVEN WITH THE SEED: the statements are not yours to turn. If you find one false, say at which input.
  Laid BY PROGRAM, IN A SANDBOX (cutbox-rows.mjs): the forced cells as the released guide's own fill.sh prints them over the translation 39da19572b062024… (all of the seat's roots in one cut). By AI agents, Wed Nov 11 2026. No macro, syntax, notation, axiom, sorry.
-/
import Derived.Test.YtpopapmmceopmaaChecked
import GoSem.Claim
import GoSem.ClaimJoined
import GoSem.ClaimMapViews
import Derived.JoinedTies
import Derived.KernelRfl
namespace Go.Proofs.Ytpopapmmceopmaa
/- THE CELL 'sum', in the pinned program and in every row, IS THE sha256 OF THE DUMP (.gsa) THAT YtpopapmmceopmaaProg.lean LOADS. Nothing in Lean hashes anything: it is a label: what it is worth is what the hold of that sum in a sandbox is worth. -/
noncomputable def Try.pinned : Pinned := { name := "ytpopapmmceopmaa", sum := "39da19572b062024804d69ac5d438f852345cb17c76ac2fae72a14493370109d", checked := Try.checked }
namespace Rows
def none {H : Type} : Left H := { results := [], args := [] }

/-- 'fringelaw29.SolveRows': WHATEVER THE INPUT: true; the input reads as it did. -/
def solveRowsSpec : ChangeSpec := { name := "solveRows", fn := fun _ => fun
  | [d1, d2, d3] => { results := [.lit (.bool true)], args := [d1, d2, d3] }
  | _ => none }
def solveRowsRow : OpenClaim := { program := "ytpopapmmceopmaa", sum := "39da19572b062024804d69ac5d438f852345cb17c76ac2fae72a14493370109d", func := "fringe/fringelaw29.SolveRows", spec := "solveRows", unfollowed := true, recurses := true, apart := false }
def SolveRowsSaid : Prop := solveRowsRow.holds Try.pinned (OpenSpec.ofChange solveRowsSpec)

/-- ITS FALSE NEIGHBOUR: 'it returns false'. Refute it at one input. -/
def solveRowsWrong : ChangeSpec := { name := "solveRows", fn := fun _ => fun
  | [d1, d2, d3] => { results := [.lit (.bool false)], args := [d1, d2, d3] }
  | _ => none }
def SolveRowsWrongFalsely : Prop := solveRowsRow.holds Try.pinned (OpenSpec.ofChange solveRowsWrong)

/-- 'fringelaw29.SolveRanks': WHATEVER THE INPUT: true; the input reads as it did. -/
def solveRanksSpec : ChangeSpec := { name := "solveRanks", fn := fun _ => fun
  | [d] => { results := [.lit (.bool true)], args := [d] }
  | _ => none }
def solveRanksRow : OpenClaim := { program := "ytpopapmmceopmaa", sum := "39da19572b062024804d69ac5d438f852345cb17c76ac2fae72a14493370109d", func := "fringe/fringelaw29.SolveRanks", spec := "solveRanks", unfollowed := true, recurses := true, apart := false }
def SolveRanksSaid : Prop := solveRanksRow.holds Try.pinned (OpenSpec.ofChange solveRanksSpec)

/-- ITS FALSE NEIGHBOUR: 'it returns false'. Refute it at one input. -/
def solveRanksWrong : ChangeSpec := { name := "solveRanks", fn := fun _ => fun
  | [d] => { results := [.lit (.bool false)], args := [d] }
  | _ => none }
def SolveRanksWrongFalsely : Prop := solveRanksRow.holds Try.pinned (OpenSpec.ofChange solveRanksWrong)

/-- 'fringelaw29.SolveWhole': WHATEVER THE INPUT: true; the input reads as it did. -/
def solveWholeSpec : ChangeSpec := { name := "solveWhole", fn := fun _ => fun
  | [d1, d2] => { results := [.lit (.bool true)], args := [d1, d2] }
  | _ => none }
def solveWholeRow : OpenClaim := { program := "ytpopapmmceopmaa", sum := "39da19572b062024804d69ac5d438f852345cb17c76ac2fae72a14493370109d", func := "fringe/fringelaw29.SolveWhole", spec := "solveWhole", inPlace := ["math/bits.Add64", "math/bits.Sub64"], unfollowed := true, recurses := true, named := ["math/bits.divideError", "math/bits.overflowError"], apart := false }
def SolveWholeSaid : Prop := solveWholeRow.holds Try.pinned (OpenSpec.ofChange solveWholeSpec)

/-- ITS FALSE NEIGHBOUR: 'it returns false'. Refute it at one input. -/
def solveWholeWrong : ChangeSpec := { name := "solveWhole", fn := fun _ => fun
  | [d1, d2] => { results := [.lit (.bool false)], args := [d1, d2] }
  | _ => none }
def SolveWholeWrongFalsely : Prop := solveWholeRow.holds Try.pinned (OpenSpec.ofChange solveWholeWrong)

/-- 'fringelaw29.SolveNames': WHATEVER THE INPUT: true; the input reads as it did. -/
def solveNamesSpec : ChangeSpec := { name := "solveNames", fn := fun _ => fun
  | [] => { results := [.lit (.bool true)], args := [] }
  | _ => none }
def solveNamesRow : OpenClaim := { program := "ytpopapmmceopmaa", sum := "39da19572b062024804d69ac5d438f852345cb17c76ac2fae72a14493370109d", func := "fringe/fringelaw29.SolveNames", spec := "solveNames", inPlace := ["math/bits.Add64", "math/bits.Sub64"], unfollowed := true, recurses := true, named := ["math/bits.divideError", "math/bits.overflowError"], apart := false }
def SolveNamesSaid : Prop := solveNamesRow.holds Try.pinned (OpenSpec.ofChange solveNamesSpec)

/-- ITS FALSE NEIGHBOUR: 'it returns false'. Refute it at one input. -/
def solveNamesWrong : ChangeSpec := { name := "solveNames", fn := fun _ => fun
  | [] => { results := [.lit (.bool false)], args := [] }
  | _ => none }
def SolveNamesWrongFalsely : Prop := solveNamesRow.holds Try.pinned (OpenSpec.ofChange solveNamesWrong)

/-- 'fringelaw29.SolveEither': WHATEVER THE INPUT: true; the input reads as it did. -/
def solveEitherSpec : ChangeSpec := { name := "solveEither", fn := fun _ => fun
  | [d] => { results := [.lit (.bool true)], args := [d] }
  | _ => none }
def solveEitherRow : OpenClaim := { program := "ytpopapmmceopmaa", sum := "39da19572b062024804d69ac5d438f852345cb17c76ac2fae72a14493370109d", func := "fringe/fringelaw29.SolveEither", spec := "solveEither", inPlace := ["math/bits.Add64", "math/bits.Sub64"], unfollowed := true, recurses := true, named := ["math/bits.divideError", "math/bits.overflowError"], apart := false }
def SolveEitherSaid : Prop := solveEitherRow.holds Try.pinned (OpenSpec.ofChange solveEitherSpec)

/-- ITS FALSE NEIGHBOUR: 'it returns false'. Refute it at one input. -/
def solveEitherWrong : ChangeSpec := { name := "solveEither", fn := fun _ => fun
  | [d] => { results := [.lit (.bool false)], args := [d] }
  | _ => none }
def SolveEitherWrongFalsely : Prop := solveEitherRow.holds Try.pinned (OpenSpec.ofChange solveEitherWrong)

/-- 'fringelaw24.TableRows': WHATEVER THE INPUT: true; the input reads as it did. -/
def tableRowsSpec : ChangeSpec := { name := "tableRows", fn := fun _ => fun
  | [d1, d2, d3, d4, d5] => { results := [.lit (.bool true)], args := [d1, d2, d3, d4, d5] }
  | _ => none }
def tableRowsRow : OpenClaim := { program := "ytpopapmmceopmaa", sum := "39da19572b062024804d69ac5d438f852345cb17c76ac2fae72a14493370109d", func := "fringe/fringelaw24.TableRows", spec := "tableRows", inPlace := ["slices.overlaps[fringe/api.VisRow]"], unfollowed := true, recurses := true, apart := false }
def TableRowsSaid : Prop := tableRowsRow.holds Try.pinned (OpenSpec.ofChange tableRowsSpec)

/-- ITS FALSE NEIGHBOUR: 'it returns false'. Refute it at one input. -/
def tableRowsWrong : ChangeSpec := { name := "tableRows", fn := fun _ => fun
  | [d1, d2, d3, d4, d5] => { results := [.lit (.bool false)], args := [d1, d2, d3, d4, d5] }
  | _ => none }
def TableRowsWrongFalsely : Prop := tableRowsRow.holds Try.pinned (OpenSpec.ofChange tableRowsWrong)

/-- 'fringelaw37.NnlsSolves': WHATEVER THE INPUT: true; the input reads as it did. -/
def nnlsSolvesSpec : ChangeSpec := { name := "nnlsSolves", fn := fun _ => fun
  | [d] => { results := [.lit (.bool true)], args := [d] }
  | _ => none }
def nnlsSolvesRow : OpenClaim := { program := "ytpopapmmceopmaa", sum := "39da19572b062024804d69ac5d438f852345cb17c76ac2fae72a14493370109d", func := "fringe/fringelaw37.NnlsSolves", spec := "nnlsSolves", inPlace := ["math/bits.Add64", "math/bits.Sub64"], recurses := true, named := ["math/bits.divideError", "math/bits.overflowError"], apart := false }
def NnlsSolvesSaid : Prop := nnlsSolvesRow.holds Try.pinned (OpenSpec.ofChange nnlsSolvesSpec)

/-- ITS FALSE NEIGHBOUR: 'it returns false'. Refute it at one input. -/
def nnlsSolvesWrong : ChangeSpec := { name := "nnlsSolves", fn := fun _ => fun
  | [d] => { results := [.lit (.bool false)], args := [d] }
  | _ => none }
def NnlsSolvesWrongFalsely : Prop := nnlsSolvesRow.holds Try.pinned (OpenSpec.ofChange nnlsSolvesWrong)

/-- 'fringelaw37.NnlsNames': WHATEVER THE INPUT: true; the input reads as it did. -/
def nnlsNamesSpec : ChangeSpec := { name := "nnlsNames", fn := fun _ => fun
  | [] => { results := [.lit (.bool true)], args := [] }
  | _ => none }
def nnlsNamesRow : OpenClaim := { program := "ytpopapmmceopmaa", sum := "39da19572b062024804d69ac5d438f852345cb17c76ac2fae72a14493370109d", func := "fringe/fringelaw37.NnlsNames", spec := "nnlsNames", inPlace := ["math/bits.Add64", "math/bits.Sub64"], named := ["math/bits.divideError", "math/bits.overflowError"], apart := false }
def NnlsNamesSaid : Prop := nnlsNamesRow.holds Try.pinned (OpenSpec.ofChange nnlsNamesSpec)

/-- ITS FALSE NEIGHBOUR: 'it returns false'. Refute it at one input. -/
def nnlsNamesWrong : ChangeSpec := { name := "nnlsNames", fn := fun _ => fun
  | [] => { results := [.lit (.bool false)], args := [] }
  | _ => none }
def NnlsNamesWrongFalsely : Prop := nnlsNamesRow.holds Try.pinned (OpenSpec.ofChange nnlsNamesWrong)

/-- 'fringelaw37.NnlsUnique': WHATEVER THE INPUT: true; the input reads as it did. -/
def nnlsUniqueSpec : ChangeSpec := { name := "nnlsUnique", fn := fun _ => fun
  | [d1, d2] => { results := [.lit (.bool true)], args := [d1, d2] }
  | _ => none }
def nnlsUniqueRow : OpenClaim := { program := "ytpopapmmceopmaa", sum := "39da19572b062024804d69ac5d438f852345cb17c76ac2fae72a14493370109d", func := "fringe/fringelaw37.NnlsUnique", spec := "nnlsUnique", inPlace := ["math/bits.Add64", "math/bits.Sub64"], named := ["math/bits.divideError", "math/bits.overflowError"], apart := false }
def NnlsUniqueSaid : Prop := nnlsUniqueRow.holds Try.pinned (OpenSpec.ofChange nnlsUniqueSpec)

/-- ITS FALSE NEIGHBOUR: 'it returns false'. Refute it at one input. -/
def nnlsUniqueWrong : ChangeSpec := { name := "nnlsUnique", fn := fun _ => fun
  | [d1, d2] => { results := [.lit (.bool false)], args := [d1, d2] }
  | _ => none }
def NnlsUniqueWrongFalsely : Prop := nnlsUniqueRow.holds Try.pinned (OpenSpec.ofChange nnlsUniqueWrong)

/-- 'fringelaw37.NnlsScales': WHATEVER THE INPUT: true; the input reads as it did. -/
def nnlsScalesSpec : ChangeSpec := { name := "nnlsScales", fn := fun _ => fun
  | [d1, d2, d3] => { results := [.lit (.bool true)], args := [d1, d2, d3] }
  | _ => none }
def nnlsScalesRow : OpenClaim := { program := "ytpopapmmceopmaa", sum := "39da19572b062024804d69ac5d438f852345cb17c76ac2fae72a14493370109d", func := "fringe/fringelaw37.NnlsScales", spec := "nnlsScales", inPlace := ["math/bits.Add64", "math/bits.Sub64"], named := ["math/bits.divideError", "math/bits.overflowError"], apart := false }
def NnlsScalesSaid : Prop := nnlsScalesRow.holds Try.pinned (OpenSpec.ofChange nnlsScalesSpec)

/-- ITS FALSE NEIGHBOUR: 'it returns false'. Refute it at one input. -/
def nnlsScalesWrong : ChangeSpec := { name := "nnlsScales", fn := fun _ => fun
  | [d1, d2, d3] => { results := [.lit (.bool false)], args := [d1, d2, d3] }
  | _ => none }
def NnlsScalesWrongFalsely : Prop := nnlsScalesRow.holds Try.pinned (OpenSpec.ofChange nnlsScalesWrong)

/-- 'fringelaw37.NnlsExact': WHATEVER THE INPUT: true; the input reads as it did. -/
def nnlsExactSpec : ChangeSpec := { name := "nnlsExact", fn := fun _ => fun
  | [d1, d2] => { results := [.lit (.bool true)], args := [d1, d2] }
  | _ => none }
def nnlsExactRow : OpenClaim := { program := "ytpopapmmceopmaa", sum := "39da19572b062024804d69ac5d438f852345cb17c76ac2fae72a14493370109d", func := "fringe/fringelaw37.NnlsExact", spec := "nnlsExact", inPlace := ["math/bits.Add64", "math/bits.Sub64"], named := ["math/bits.divideError", "math/bits.overflowError"], apart := false }
def NnlsExactSaid : Prop := nnlsExactRow.holds Try.pinned (OpenSpec.ofChange nnlsExactSpec)

/-- ITS FALSE NEIGHBOUR: 'it returns false'. Refute it at one input. -/
def nnlsExactWrong : ChangeSpec := { name := "nnlsExact", fn := fun _ => fun
  | [d1, d2] => { results := [.lit (.bool false)], args := [d1, d2] }
  | _ => none }
def NnlsExactWrongFalsely : Prop := nnlsExactRow.holds Try.pinned (OpenSpec.ofChange nnlsExactWrong)

/-- 'fringelaw37.NnlsBest': WHATEVER THE INPUT: true; the input reads as it did. -/
def nnlsBestSpec : ChangeSpec := { name := "nnlsBest", fn := fun _ => fun
  | [d1, d2] => { results := [.lit (.bool true)], args := [d1, d2] }
  | _ => none }
def nnlsBestRow : OpenClaim := { program := "ytpopapmmceopmaa", sum := "39da19572b062024804d69ac5d438f852345cb17c76ac2fae72a14493370109d", func := "fringe/fringelaw37.NnlsBest", spec := "nnlsBest", inPlace := ["math/bits.Add64", "math/bits.Sub64"], named := ["math/bits.divideError", "math/bits.overflowError"], apart := false }
def NnlsBestSaid : Prop := nnlsBestRow.holds Try.pinned (OpenSpec.ofChange nnlsBestSpec)

/-- ITS FALSE NEIGHBOUR: 'it returns false'. Refute it at one input. -/
def nnlsBestWrong : ChangeSpec := { name := "nnlsBest", fn := fun _ => fun
  | [d1, d2] => { results := [.lit (.bool false)], args := [d1, d2] }
  | _ => none }
def NnlsBestWrongFalsely : Prop := nnlsBestRow.holds Try.pinned (OpenSpec.ofChange nnlsBestWrong)

/- THE SECOND FORM. 'bulk': how many values and letters a reading holds, each counted each time it is reached (what is shared counts as often as it is met; a slice's spare places count too). A statement '..UptoSaid' is the law's where the arguments, and the package variables that the reading takes, are together of bulk at most 1048576: NARROWER than '..Said'. Prove '..Said' where nothing that the law and all that it calls make is longer than what came in: it says more and counts as full. Else prove '..UptoSaid'. A law counts once. -/
mutual
def uptoBulk {H : Type} : DataW H → Nat
  | .lit (.string bytes) => bytes.length + 1
  | .lit _ => 1
  | .nil => 1
  | .ptr d => uptoBulk d + 1
  | .slice elems spare => uptoBulkAll elems + uptoBulkAll spare + 1
  | .agg parts => uptoBulkAll parts + 1
  | .iface _ d => uptoBulk d + 1
  | .map entries => uptoBulkEntries entries + 1
  | .held _ => 1
def uptoBulkAll {H : Type} : List (DataW H) → Nat
  | [] => 0
  | d :: r => uptoBulk d + uptoBulkAll r
def uptoBulkEntries {H : Type} : List (Lit × DataW H) → Nat
  | [] => 0
  | x :: r => uptoBulkEntry x + uptoBulkEntries r
def uptoBulkEntry {H : Type} : Lit × DataW H → Nat
  | (.string bytes, d) => bytes.length + uptoBulk d + 1
  | (_, d) => uptoBulk d + 1
 end
def uptoSmall : (H : Type) → List (DataW H) → Bool := fun _ ds => decide (uptoBulkAll ds ≤ 1048576)
def OpenSpec.upto (s : _root_.Go.ChangeSpec) : _root_.Go.OpenSpec := { _root_.Go.OpenSpec.ofChange s with cond := some uptoSmall }

/-- 'fringelaw29.SolveRows', WHERE WHAT IT READS IS OF BULK AT MOST 1048576: true; the input reads as it did. -/
def solveRowsUptoRow : OpenClaim := { program := "ytpopapmmceopmaa", sum := "39da19572b062024804d69ac5d438f852345cb17c76ac2fae72a14493370109d", func := "fringe/fringelaw29.SolveRows", spec := "solveRows", unfollowed := true, recurses := true, apart := false, narrowed := true }
def SolveRowsUptoSaid : Prop := solveRowsUptoRow.holds Try.pinned (OpenSpec.upto solveRowsSpec)

/-- 'fringelaw29.SolveRanks', WHERE WHAT IT READS IS OF BULK AT MOST 1048576: true; the input reads as it did. -/
def solveRanksUptoRow : OpenClaim := { program := "ytpopapmmceopmaa", sum := "39da19572b062024804d69ac5d438f852345cb17c76ac2fae72a14493370109d", func := "fringe/fringelaw29.SolveRanks", spec := "solveRanks", unfollowed := true, recurses := true, apart := false, narrowed := true }
def SolveRanksUptoSaid : Prop := solveRanksUptoRow.holds Try.pinned (OpenSpec.upto solveRanksSpec)

/-- 'fringelaw29.SolveWhole', WHERE WHAT IT READS IS OF BULK AT MOST 1048576: true; the input reads as it did. -/
def solveWholeUptoRow : OpenClaim := { program := "ytpopapmmceopmaa", sum := "39da19572b062024804d69ac5d438f852345cb17c76ac2fae72a14493370109d", func := "fringe/fringelaw29.SolveWhole", spec := "solveWhole", inPlace := ["math/bits.Add64", "math/bits.Sub64"], unfollowed := true, recurses := true, named := ["math/bits.divideError", "math/bits.overflowError"], apart := false, narrowed := true }
def SolveWholeUptoSaid : Prop := solveWholeUptoRow.holds Try.pinned (OpenSpec.upto solveWholeSpec)

/-- 'fringelaw29.SolveNames', WHERE WHAT IT READS IS OF BULK AT MOST 1048576: true; the input reads as it did. -/
def solveNamesUptoRow : OpenClaim := { program := "ytpopapmmceopmaa", sum := "39da19572b062024804d69ac5d438f852345cb17c76ac2fae72a14493370109d", func := "fringe/fringelaw29.SolveNames", spec := "solveNames", inPlace := ["math/bits.Add64", "math/bits.Sub64"], unfollowed := true, recurses := true, named := ["math/bits.divideError", "math/bits.overflowError"], apart := false, narrowed := true }
def SolveNamesUptoSaid : Prop := solveNamesUptoRow.holds Try.pinned (OpenSpec.upto solveNamesSpec)

/-- 'fringelaw29.SolveEither', WHERE WHAT IT READS IS OF BULK AT MOST 1048576: true; the input reads as it did. -/
def solveEitherUptoRow : OpenClaim := { program := "ytpopapmmceopmaa", sum := "39da19572b062024804d69ac5d438f852345cb17c76ac2fae72a14493370109d", func := "fringe/fringelaw29.SolveEither", spec := "solveEither", inPlace := ["math/bits.Add64", "math/bits.Sub64"], unfollowed := true, recurses := true, named := ["math/bits.divideError", "math/bits.overflowError"], apart := false, narrowed := true }
def SolveEitherUptoSaid : Prop := solveEitherUptoRow.holds Try.pinned (OpenSpec.upto solveEitherSpec)

/-- 'fringelaw24.TableRows', WHERE WHAT IT READS IS OF BULK AT MOST 1048576: true; the input reads as it did. -/
def tableRowsUptoRow : OpenClaim := { program := "ytpopapmmceopmaa", sum := "39da19572b062024804d69ac5d438f852345cb17c76ac2fae72a14493370109d", func := "fringe/fringelaw24.TableRows", spec := "tableRows", inPlace := ["slices.overlaps[fringe/api.VisRow]"], unfollowed := true, recurses := true, apart := false, narrowed := true }
def TableRowsUptoSaid : Prop := tableRowsUptoRow.holds Try.pinned (OpenSpec.upto tableRowsSpec)

/-- 'fringelaw37.NnlsSolves', WHERE WHAT IT READS IS OF BULK AT MOST 1048576: true; the input reads as it did. -/
def nnlsSolvesUptoRow : OpenClaim := { program := "ytpopapmmceopmaa", sum := "39da19572b062024804d69ac5d438f852345cb17c76ac2fae72a14493370109d", func := "fringe/fringelaw37.NnlsSolves", spec := "nnlsSolves", inPlace := ["math/bits.Add64", "math/bits.Sub64"], recurses := true, named := ["math/bits.divideError", "math/bits.overflowError"], apart := false, narrowed := true }
def NnlsSolvesUptoSaid : Prop := nnlsSolvesUptoRow.holds Try.pinned (OpenSpec.upto nnlsSolvesSpec)

/-- 'fringelaw37.NnlsNames', WHERE WHAT IT READS IS OF BULK AT MOST 1048576: true; the input reads as it did. -/
def nnlsNamesUptoRow : OpenClaim := { program := "ytpopapmmceopmaa", sum := "39da19572b062024804d69ac5d438f852345cb17c76ac2fae72a14493370109d", func := "fringe/fringelaw37.NnlsNames", spec := "nnlsNames", inPlace := ["math/bits.Add64", "math/bits.Sub64"], named := ["math/bits.divideError", "math/bits.overflowError"], apart := false, narrowed := true }
def NnlsNamesUptoSaid : Prop := nnlsNamesUptoRow.holds Try.pinned (OpenSpec.upto nnlsNamesSpec)

/-- 'fringelaw37.NnlsUnique', WHERE WHAT IT READS IS OF BULK AT MOST 1048576: true; the input reads as it did. -/
def nnlsUniqueUptoRow : OpenClaim := { program := "ytpopapmmceopmaa", sum := "39da19572b062024804d69ac5d438f852345cb17c76ac2fae72a14493370109d", func := "fringe/fringelaw37.NnlsUnique", spec := "nnlsUnique", inPlace := ["math/bits.Add64", "math/bits.Sub64"], named := ["math/bits.divideError", "math/bits.overflowError"], apart := false, narrowed := true }
def NnlsUniqueUptoSaid : Prop := nnlsUniqueUptoRow.holds Try.pinned (OpenSpec.upto nnlsUniqueSpec)

/-- 'fringelaw37.NnlsScales', WHERE WHAT IT READS IS OF BULK AT MOST 1048576: true; the input reads as it did. -/
def nnlsScalesUptoRow : OpenClaim := { program := "ytpopapmmceopmaa", sum := "39da19572b062024804d69ac5d438f852345cb17c76ac2fae72a14493370109d", func := "fringe/fringelaw37.NnlsScales", spec := "nnlsScales", inPlace := ["math/bits.Add64", "math/bits.Sub64"], named := ["math/bits.divideError", "math/bits.overflowError"], apart := false, narrowed := true }
def NnlsScalesUptoSaid : Prop := nnlsScalesUptoRow.holds Try.pinned (OpenSpec.upto nnlsScalesSpec)

/-- 'fringelaw37.NnlsExact', WHERE WHAT IT READS IS OF BULK AT MOST 1048576: true; the input reads as it did. -/
def nnlsExactUptoRow : OpenClaim := { program := "ytpopapmmceopmaa", sum := "39da19572b062024804d69ac5d438f852345cb17c76ac2fae72a14493370109d", func := "fringe/fringelaw37.NnlsExact", spec := "nnlsExact", inPlace := ["math/bits.Add64", "math/bits.Sub64"], named := ["math/bits.divideError", "math/bits.overflowError"], apart := false, narrowed := true }
def NnlsExactUptoSaid : Prop := nnlsExactUptoRow.holds Try.pinned (OpenSpec.upto nnlsExactSpec)

/-- 'fringelaw37.NnlsBest', WHERE WHAT IT READS IS OF BULK AT MOST 1048576: true; the input reads as it did. -/
def nnlsBestUptoRow : OpenClaim := { program := "ytpopapmmceopmaa", sum := "39da19572b062024804d69ac5d438f852345cb17c76ac2fae72a14493370109d", func := "fringe/fringelaw37.NnlsBest", spec := "nnlsBest", inPlace := ["math/bits.Add64", "math/bits.Sub64"], named := ["math/bits.divideError", "math/bits.overflowError"], apart := false, narrowed := true }
def NnlsBestUptoSaid : Prop := nnlsBestUptoRow.holds Try.pinned (OpenSpec.upto nnlsBestSpec)

end Rows
end Go.Proofs.Ytpopapmmceopmaa
