/-
  No cell of these rows narrows 'for every input' (looked for: loops, veiled, ifaces, maps, wideKeys, modest, calm, conditions, laid).
  DERIVED. THE GIVEN ROWS OF THIS SEAT. 12 by the template 'for every input the law returns true; each argument reads behind the call as it read before'; 0 by the template 'total and deterministic' (their statements: YtkgnbchnnbadlaaTotals.lean).
  GIVEN WITH THE SEED: the statements are not yours to turn. If you find one false, say at which input.
  Laid BY PROGRAM, IN A SANDBOX (cutbox-rows.mjs): the forced cells as the released guide's own fill.sh prints them over the translation b105b3386da8dfda… (all of the seat's roots in one cut). By AI agents, Wed Nov 11 2026. No macro, syntax, notation, axiom, sorry.
-/
import Derived.Test.YtkgnbchnnbadlaaChecked
import GoSem.Claim
import GoSem.ClaimJoined
import GoSem.ClaimMapViews
import Derived.JoinedTies
import Derived.KernelRfl
namespace Go.Proofs.Ytkgnbchnnbadlaa
/- THE CELL 'sum', in the pinned program and in every row, IS THE sha256 OF THE DUMP (.gsa) THAT YtkgnbchnnbadlaaProg.lean LOADS. Nothing in Lean hashes anything: it is a label: what it is worth is what the hold of that sum in a sandbox is worth. -/
noncomputable def Try.pinned : Pinned := { name := "ytkgnbchnnbadlaa", sum := "b105b3386da8dfda7c097ce4b23b1d8984b2dc2262b00c5f9176c605dca4217b", checked := Try.checked }
namespace Rows
def none {H : Type} : Left H := { results := [], args := [] }

/-- 'fringelaw01.FracBest': WHATEVER THE INPUT: true; the input reads as it did. -/
def fracBestSpec : ChangeSpec := { name := "fracBest", fn := fun _ => fun
  | [d1, d2, d3] => { results := [.lit (.bool true)], args := [d1, d2, d3] }
  | _ => none }
def fracBestRow : OpenClaim := { program := "ytkgnbchnnbadlaa", sum := "b105b3386da8dfda7c097ce4b23b1d8984b2dc2262b00c5f9176c605dca4217b", func := "fringe/fringelaw01.FracBest", spec := "fracBest", apart := false }
def FracBestSaid : Prop := fracBestRow.holds Try.pinned (OpenSpec.ofChange fracBestSpec)

/-- ITS FALSE NEIGHBOUR: 'it returns false'. Refute it at one input. -/
def fracBestWrong : ChangeSpec := { name := "fracBest", fn := fun _ => fun
  | [d1, d2, d3] => { results := [.lit (.bool false)], args := [d1, d2, d3] }
  | _ => none }
def FracBestWrongFalsely : Prop := fracBestRow.holds Try.pinned (OpenSpec.ofChange fracBestWrong)

/-- 'fringelaw01.FracProducts': WHATEVER THE INPUT: true; the input reads as it did. -/
def fracProductsSpec : ChangeSpec := { name := "fracProducts", fn := fun _ => fun
  | [d1, d2, d3, d4] => { results := [.lit (.bool true)], args := [d1, d2, d3, d4] }
  | _ => none }
def fracProductsRow : OpenClaim := { program := "ytkgnbchnnbadlaa", sum := "b105b3386da8dfda7c097ce4b23b1d8984b2dc2262b00c5f9176c605dca4217b", func := "fringe/fringelaw01.FracProducts", spec := "fracProducts", apart := false }
def FracProductsSaid : Prop := fracProductsRow.holds Try.pinned (OpenSpec.ofChange fracProductsSpec)

/-- ITS FALSE NEIGHBOUR: 'it returns false'. Refute it at one input. -/
def fracProductsWrong : ChangeSpec := { name := "fracProducts", fn := fun _ => fun
  | [d1, d2, d3, d4] => { results := [.lit (.bool false)], args := [d1, d2, d3, d4] }
  | _ => none }
def FracProductsWrongFalsely : Prop := fracProductsRow.holds Try.pinned (OpenSpec.ofChange fracProductsWrong)

/-- 'fringelaw01.FracSums': WHATEVER THE INPUT: true; the input reads as it did. -/
def fracSumsSpec : ChangeSpec := { name := "fracSums", fn := fun _ => fun
  | [d1, d2] => { results := [.lit (.bool true)], args := [d1, d2] }
  | _ => none }
def fracSumsRow : OpenClaim := { program := "ytkgnbchnnbadlaa", sum := "b105b3386da8dfda7c097ce4b23b1d8984b2dc2262b00c5f9176c605dca4217b", func := "fringe/fringelaw01.FracSums", spec := "fracSums", inPlace := ["math/bits.Add64", "math/bits.Sub64"], named := ["math/bits.divideError", "math/bits.overflowError"], apart := false }
def FracSumsSaid : Prop := fracSumsRow.holds Try.pinned (OpenSpec.ofChange fracSumsSpec)

/-- ITS FALSE NEIGHBOUR: 'it returns false'. Refute it at one input. -/
def fracSumsWrong : ChangeSpec := { name := "fracSums", fn := fun _ => fun
  | [d1, d2] => { results := [.lit (.bool false)], args := [d1, d2] }
  | _ => none }
def FracSumsWrongFalsely : Prop := fracSumsRow.holds Try.pinned (OpenSpec.ofChange fracSumsWrong)

/-- 'fringelaw01.FracField': WHATEVER THE INPUT: true; the input reads as it did. -/
def fracFieldSpec : ChangeSpec := { name := "fracField", fn := fun _ => fun
  | [d1, d2] => { results := [.lit (.bool true)], args := [d1, d2] }
  | _ => none }
def fracFieldRow : OpenClaim := { program := "ytkgnbchnnbadlaa", sum := "b105b3386da8dfda7c097ce4b23b1d8984b2dc2262b00c5f9176c605dca4217b", func := "fringe/fringelaw01.FracField", spec := "fracField", inPlace := ["math/bits.Add64", "math/bits.Sub64"], named := ["math/bits.divideError", "math/bits.overflowError"], apart := false }
def FracFieldSaid : Prop := fracFieldRow.holds Try.pinned (OpenSpec.ofChange fracFieldSpec)

/-- ITS FALSE NEIGHBOUR: 'it returns false'. Refute it at one input. -/
def fracFieldWrong : ChangeSpec := { name := "fracField", fn := fun _ => fun
  | [d1, d2] => { results := [.lit (.bool false)], args := [d1, d2] }
  | _ => none }
def FracFieldWrongFalsely : Prop := fracFieldRow.holds Try.pinned (OpenSpec.ofChange fracFieldWrong)

/-- 'fringelaw29.SolveAsks': WHATEVER THE INPUT: true; the input reads as it did. -/
def solveAsksSpec : ChangeSpec := { name := "solveAsks", fn := fun _ => fun
  | [d1, d2] => { results := [.lit (.bool true)], args := [d1, d2] }
  | _ => none }
def solveAsksRow : OpenClaim := { program := "ytkgnbchnnbadlaa", sum := "b105b3386da8dfda7c097ce4b23b1d8984b2dc2262b00c5f9176c605dca4217b", func := "fringe/fringelaw29.SolveAsks", spec := "solveAsks", inPlace := ["math/bits.Add64", "math/bits.Sub64"], unfollowed := true, recurses := true, named := ["math/bits.divideError", "math/bits.overflowError"], apart := false }
def SolveAsksSaid : Prop := solveAsksRow.holds Try.pinned (OpenSpec.ofChange solveAsksSpec)

/-- ITS FALSE NEIGHBOUR: 'it returns false'. Refute it at one input. -/
def solveAsksWrong : ChangeSpec := { name := "solveAsks", fn := fun _ => fun
  | [d1, d2] => { results := [.lit (.bool false)], args := [d1, d2] }
  | _ => none }
def SolveAsksWrongFalsely : Prop := solveAsksRow.holds Try.pinned (OpenSpec.ofChange solveAsksWrong)

/-- 'fringelaw36.CellsGrids': WHATEVER THE INPUT: true; the input reads as it did. -/
def cellsGridsSpec : ChangeSpec := { name := "cellsGrids", fn := fun _ => fun
  | [d1, d2, d3, d4] => { results := [.lit (.bool true)], args := [d1, d2, d3, d4] }
  | _ => none }
def cellsGridsRow : OpenClaim := { program := "ytkgnbchnnbadlaa", sum := "b105b3386da8dfda7c097ce4b23b1d8984b2dc2262b00c5f9176c605dca4217b", func := "fringe/fringelaw36.CellsGrids", spec := "cellsGrids", unfollowed := true, recurses := true, apart := false }
def CellsGridsSaid : Prop := cellsGridsRow.holds Try.pinned (OpenSpec.ofChange cellsGridsSpec)

/-- ITS FALSE NEIGHBOUR: 'it returns false'. Refute it at one input. -/
def cellsGridsWrong : ChangeSpec := { name := "cellsGrids", fn := fun _ => fun
  | [d1, d2, d3, d4] => { results := [.lit (.bool false)], args := [d1, d2, d3, d4] }
  | _ => none }
def CellsGridsWrongFalsely : Prop := cellsGridsRow.holds Try.pinned (OpenSpec.ofChange cellsGridsWrong)

/-- 'fringelaw36.CellsLinear': WHATEVER THE INPUT: true; the input reads as it did. -/
def cellsLinearSpec : ChangeSpec := { name := "cellsLinear", fn := fun _ => fun
  | [d1, d2, d3, d4, d5] => { results := [.lit (.bool true)], args := [d1, d2, d3, d4, d5] }
  | _ => none }
def cellsLinearRow : OpenClaim := { program := "ytkgnbchnnbadlaa", sum := "b105b3386da8dfda7c097ce4b23b1d8984b2dc2262b00c5f9176c605dca4217b", func := "fringe/fringelaw36.CellsLinear", spec := "cellsLinear", unfollowed := true, recurses := true, apart := false }
def CellsLinearSaid : Prop := cellsLinearRow.holds Try.pinned (OpenSpec.ofChange cellsLinearSpec)

/-- ITS FALSE NEIGHBOUR: 'it returns false'. Refute it at one input. -/
def cellsLinearWrong : ChangeSpec := { name := "cellsLinear", fn := fun _ => fun
  | [d1, d2, d3, d4, d5] => { results := [.lit (.bool false)], args := [d1, d2, d3, d4, d5] }
  | _ => none }
def CellsLinearWrongFalsely : Prop := cellsLinearRow.holds Try.pinned (OpenSpec.ofChange cellsLinearWrong)

/-- 'fringelaw36.CellsEven': WHATEVER THE INPUT: true; the input reads as it did. -/
def cellsEvenSpec : ChangeSpec := { name := "cellsEven", fn := fun _ => fun
  | [d1, d2, d3] => { results := [.lit (.bool true)], args := [d1, d2, d3] }
  | _ => none }
def cellsEvenRow : OpenClaim := { program := "ytkgnbchnnbadlaa", sum := "b105b3386da8dfda7c097ce4b23b1d8984b2dc2262b00c5f9176c605dca4217b", func := "fringe/fringelaw36.CellsEven", spec := "cellsEven", unfollowed := true, recurses := true, apart := false }
def CellsEvenSaid : Prop := cellsEvenRow.holds Try.pinned (OpenSpec.ofChange cellsEvenSpec)

/-- ITS FALSE NEIGHBOUR: 'it returns false'. Refute it at one input. -/
def cellsEvenWrong : ChangeSpec := { name := "cellsEven", fn := fun _ => fun
  | [d1, d2, d3] => { results := [.lit (.bool false)], args := [d1, d2, d3] }
  | _ => none }
def CellsEvenWrongFalsely : Prop := cellsEvenRow.holds Try.pinned (OpenSpec.ofChange cellsEvenWrong)

/-- 'fringelaw36.CellsNames': WHATEVER THE INPUT: true; the input reads as it did. -/
def cellsNamesSpec : ChangeSpec := { name := "cellsNames", fn := fun _ => fun
  | [] => { results := [.lit (.bool true)], args := [] }
  | _ => none }
def cellsNamesRow : OpenClaim := { program := "ytkgnbchnnbadlaa", sum := "b105b3386da8dfda7c097ce4b23b1d8984b2dc2262b00c5f9176c605dca4217b", func := "fringe/fringelaw36.CellsNames", spec := "cellsNames", unfollowed := true, recurses := true, apart := false }
def CellsNamesSaid : Prop := cellsNamesRow.holds Try.pinned (OpenSpec.ofChange cellsNamesSpec)

/-- ITS FALSE NEIGHBOUR: 'it returns false'. Refute it at one input. -/
def cellsNamesWrong : ChangeSpec := { name := "cellsNames", fn := fun _ => fun
  | [] => { results := [.lit (.bool false)], args := [] }
  | _ => none }
def CellsNamesWrongFalsely : Prop := cellsNamesRow.holds Try.pinned (OpenSpec.ofChange cellsNamesWrong)

/-- 'fringelaw36.CellsTranspose': WHATEVER THE INPUT: true; the input reads as it did. -/
def cellsTransposeSpec : ChangeSpec := { name := "cellsTranspose", fn := fun _ => fun
  | [d1, d2, d3] => { results := [.lit (.bool true)], args := [d1, d2, d3] }
  | _ => none }
def cellsTransposeRow : OpenClaim := { program := "ytkgnbchnnbadlaa", sum := "b105b3386da8dfda7c097ce4b23b1d8984b2dc2262b00c5f9176c605dca4217b", func := "fringe/fringelaw36.CellsTranspose", spec := "cellsTranspose", unfollowed := true, recurses := true, apart := false }
def CellsTransposeSaid : Prop := cellsTransposeRow.holds Try.pinned (OpenSpec.ofChange cellsTransposeSpec)

/-- ITS FALSE NEIGHBOUR: 'it returns false'. Refute it at one input. -/
def cellsTransposeWrong : ChangeSpec := { name := "cellsTranspose", fn := fun _ => fun
  | [d1, d2, d3] => { results := [.lit (.bool false)], args := [d1, d2, d3] }
  | _ => none }
def CellsTransposeWrongFalsely : Prop := cellsTransposeRow.holds Try.pinned (OpenSpec.ofChange cellsTransposeWrong)

/-- 'fringelaw36.CellsParts': WHATEVER THE INPUT: true; the input reads as it did. -/
def cellsPartsSpec : ChangeSpec := { name := "cellsParts", fn := fun _ => fun
  | [d1, d2] => { results := [.lit (.bool true)], args := [d1, d2] }
  | _ => none }
def cellsPartsRow : OpenClaim := { program := "ytkgnbchnnbadlaa", sum := "b105b3386da8dfda7c097ce4b23b1d8984b2dc2262b00c5f9176c605dca4217b", func := "fringe/fringelaw36.CellsParts", spec := "cellsParts", inPlace := ["math/bits.Add64", "math/bits.Sub64"], unfollowed := true, recurses := true, named := ["math/bits.divideError", "math/bits.overflowError"], apart := false }
def CellsPartsSaid : Prop := cellsPartsRow.holds Try.pinned (OpenSpec.ofChange cellsPartsSpec)

/-- ITS FALSE NEIGHBOUR: 'it returns false'. Refute it at one input. -/
def cellsPartsWrong : ChangeSpec := { name := "cellsParts", fn := fun _ => fun
  | [d1, d2] => { results := [.lit (.bool false)], args := [d1, d2] }
  | _ => none }
def CellsPartsWrongFalsely : Prop := cellsPartsRow.holds Try.pinned (OpenSpec.ofChange cellsPartsWrong)

/-- 'fringelaw38.SparseTells': WHATEVER THE INPUT: true; the input reads as it did. -/
def sparseTellsSpec : ChangeSpec := { name := "sparseTells", fn := fun _ => fun
  | [d1, d2, d3] => { results := [.lit (.bool true)], args := [d1, d2, d3] }
  | _ => none }
def sparseTellsRow : OpenClaim := { program := "ytkgnbchnnbadlaa", sum := "b105b3386da8dfda7c097ce4b23b1d8984b2dc2262b00c5f9176c605dca4217b", func := "fringe/fringelaw38.SparseTells", spec := "sparseTells", inPlace := ["math/bits.Add64", "math/bits.Sub64"], named := ["math/bits.divideError", "math/bits.overflowError"], apart := false }
def SparseTellsSaid : Prop := sparseTellsRow.holds Try.pinned (OpenSpec.ofChange sparseTellsSpec)

/-- ITS FALSE NEIGHBOUR: 'it returns false'. Refute it at one input. -/
def sparseTellsWrong : ChangeSpec := { name := "sparseTells", fn := fun _ => fun
  | [d1, d2, d3] => { results := [.lit (.bool false)], args := [d1, d2, d3] }
  | _ => none }
def SparseTellsWrongFalsely : Prop := sparseTellsRow.holds Try.pinned (OpenSpec.ofChange sparseTellsWrong)

/- THE SECOND FORM. 'bulk': how many values and letters a reading holds, each counted each time it is reached (what is shared counts as often as it is met; a slice's spare places count too). A statement '..UptoSaid' is the law's where the arguments, and the package variables that the reading takes, are together of bulk at most 1048576: NARROWER than '..Said'. Prove '..Said' where nothing that the law and all that it calls make is longer than what came in: it says more and counts as full. Else prove '..UptoSaid'. A law counts once. -/
mutual
def uptoBulk {H : Type} : DataW H → Nat
  | .lit (.string bytes) => bytes.length + 1
  | .lit _ => 1
  | .nil => 1
  | .ptr d => uptoBulk d + 1
  | .slice elems spare => uptoBulkAll elems + uptoBulkAll spare + 1
  | .agg parts => uptoBulkAll parts + 1
  | .iface _ d => uptoBulk d + 1
  | .map entries => uptoBulkEntries entries + 1
  | .held _ => 1
def uptoBulkAll {H : Type} : List (DataW H) → Nat
  | [] => 0
  | d :: r => uptoBulk d + uptoBulkAll r
def uptoBulkEntries {H : Type} : List (Lit × DataW H) → Nat
  | [] => 0
  | x :: r => uptoBulkEntry x + uptoBulkEntries r
def uptoBulkEntry {H : Type} : Lit × DataW H → Nat
  | (.string bytes, d) => bytes.length + uptoBulk d + 1
  | (_, d) => uptoBulk d + 1
 end
def uptoSmall : (H : Type) → List (DataW H) → Bool := fun _ ds => decide (uptoBulkAll ds ≤ 1048576)
def OpenSpec.upto (s : _root_.Go.ChangeSpec) : _root_.Go.OpenSpec := { _root_.Go.OpenSpec.ofChange s with cond := some uptoSmall }

/-- 'fringelaw01.FracBest', WHERE WHAT IT READS IS OF BULK AT MOST 1048576: true; the input reads as it did. -/
def fracBestUptoRow : OpenClaim := { program := "ytkgnbchnnbadlaa", sum := "b105b3386da8dfda7c097ce4b23b1d8984b2dc2262b00c5f9176c605dca4217b", func := "fringe/fringelaw01.FracBest", spec := "fracBest", apart := false, narrowed := true }
def FracBestUptoSaid : Prop := fracBestUptoRow.holds Try.pinned (OpenSpec.upto fracBestSpec)

/-- 'fringelaw01.FracProducts', WHERE WHAT IT READS IS OF BULK AT MOST 1048576: true; the input reads as it did. -/
def fracProductsUptoRow : OpenClaim := { program := "ytkgnbchnnbadlaa", sum := "b105b3386da8dfda7c097ce4b23b1d8984b2dc2262b00c5f9176c605dca4217b", func := "fringe/fringelaw01.FracProducts", spec := "fracProducts", apart := false, narrowed := true }
def FracProductsUptoSaid : Prop := fracProductsUptoRow.holds Try.pinned (OpenSpec.upto fracProductsSpec)

/-- 'fringelaw01.FracSums', WHERE WHAT IT READS IS OF BULK AT MOST 1048576: true; the input reads as it did. -/
def fracSumsUptoRow : OpenClaim := { program := "ytkgnbchnnbadlaa", sum := "b105b3386da8dfda7c097ce4b23b1d8984b2dc2262b00c5f9176c605dca4217b", func := "fringe/fringelaw01.FracSums", spec := "fracSums", inPlace := ["math/bits.Add64", "math/bits.Sub64"], named := ["math/bits.divideError", "math/bits.overflowError"], apart := false, narrowed := true }
def FracSumsUptoSaid : Prop := fracSumsUptoRow.holds Try.pinned (OpenSpec.upto fracSumsSpec)

/-- 'fringelaw01.FracField', WHERE WHAT IT READS IS OF BULK AT MOST 1048576: true; the input reads as it did. -/
def fracFieldUptoRow : OpenClaim := { program := "ytkgnbchnnbadlaa", sum := "b105b3386da8dfda7c097ce4b23b1d8984b2dc2262b00c5f9176c605dca4217b", func := "fringe/fringelaw01.FracField", spec := "fracField", inPlace := ["math/bits.Add64", "math/bits.Sub64"], named := ["math/bits.divideError", "math/bits.overflowError"], apart := false, narrowed := true }
def FracFieldUptoSaid : Prop := fracFieldUptoRow.holds Try.pinned (OpenSpec.upto fracFieldSpec)

/-- 'fringelaw29.SolveAsks', WHERE WHAT IT READS IS OF BULK AT MOST 1048576: true; the input reads as it did. -/
def solveAsksUptoRow : OpenClaim := { program := "ytkgnbchnnbadlaa", sum := "b105b3386da8dfda7c097ce4b23b1d8984b2dc2262b00c5f9176c605dca4217b", func := "fringe/fringelaw29.SolveAsks", spec := "solveAsks", inPlace := ["math/bits.Add64", "math/bits.Sub64"], unfollowed := true, recurses := true, named := ["math/bits.divideError", "math/bits.overflowError"], apart := false, narrowed := true }
def SolveAsksUptoSaid : Prop := solveAsksUptoRow.holds Try.pinned (OpenSpec.upto solveAsksSpec)

/-- 'fringelaw36.CellsGrids', WHERE WHAT IT READS IS OF BULK AT MOST 1048576: true; the input reads as it did. -/
def cellsGridsUptoRow : OpenClaim := { program := "ytkgnbchnnbadlaa", sum := "b105b3386da8dfda7c097ce4b23b1d8984b2dc2262b00c5f9176c605dca4217b", func := "fringe/fringelaw36.CellsGrids", spec := "cellsGrids", unfollowed := true, recurses := true, apart := false, narrowed := true }
def CellsGridsUptoSaid : Prop := cellsGridsUptoRow.holds Try.pinned (OpenSpec.upto cellsGridsSpec)

/-- 'fringelaw36.CellsLinear', WHERE WHAT IT READS IS OF BULK AT MOST 1048576: true; the input reads as it did. -/
def cellsLinearUptoRow : OpenClaim := { program := "ytkgnbchnnbadlaa", sum := "b105b3386da8dfda7c097ce4b23b1d8984b2dc2262b00c5f9176c605dca4217b", func := "fringe/fringelaw36.CellsLinear", spec := "cellsLinear", unfollowed := true, recurses := true, apart := false, narrowed := true }
def CellsLinearUptoSaid : Prop := cellsLinearUptoRow.holds Try.pinned (OpenSpec.upto cellsLinearSpec)

/-- 'fringelaw36.CellsEven', WHERE WHAT IT READS IS OF BULK AT MOST 1048576: true; the input reads as it did. -/
def cellsEvenUptoRow : OpenClaim := { program := "ytkgnbchnnbadlaa", sum := "b105b3386da8dfda7c097ce4b23b1d8984b2dc2262b00c5f9176c605dca4217b", func := "fringe/fringelaw36.CellsEven", spec := "cellsEven", unfollowed := true, recurses := true, apart := false, narrowed := true }
def CellsEvenUptoSaid : Prop := cellsEvenUptoRow.holds Try.pinned (OpenSpec.upto cellsEvenSpec)

/-- 'fringelaw36.CellsNames', WHERE WHAT IT READS IS OF BULK AT MOST 1048576: true; the input reads as it did. -/
def cellsNamesUptoRow : OpenClaim := { program := "ytkgnbchnnbadlaa", sum := "b105b3386da8dfda7c097ce4b23b1d8984b2dc2262b00c5f9176c605dca4217b", func := "fringe/fringelaw36.CellsNames", spec := "cellsNames", unfollowed := true, recurses := true, apart := false, narrowed := true }
def CellsNamesUptoSaid : Prop := cellsNamesUptoRow.holds Try.pinned (OpenSpec.upto cellsNamesSpec)

/-- 'fringelaw36.CellsTranspose', WHERE WHAT IT READS IS OF BULK AT MOST 1048576: true; the input reads as it did. -/
def cellsTransposeUptoRow : OpenClaim := { program := "ytkgnbchnnbadlaa", sum := "b105b3386da8dfda7c097ce4b23b1d8984b2dc2262b00c5f9176c605dca4217b", func := "fringe/fringelaw36.CellsTranspose", spec := "cellsTranspose", unfollowed := true, recurses := true, apart := false, narrowed := true }
def CellsTransposeUptoSaid : Prop := cellsTransposeUptoRow.holds Try.pinned (OpenSpec.upto cellsTransposeSpec)

/-- 'fringelaw36.CellsParts', WHERE WHAT IT READS IS OF BULK AT MOST 1048576: true; the input reads as it did. -/
def cellsPartsUptoRow : OpenClaim := { program := "ytkgnbchnnbadlaa", sum := "b105b3386da8dfda7c097ce4b23b1d8984b2dc2262b00c5f9176c605dca4217b", func := "fringe/fringelaw36.CellsParts", spec := "cellsParts", inPlace := ["math/bits.Add64", "math/bits.Sub64"], unfollowed := true, recurses := true, named := ["math/bits.divideError", "math/bits.overflowError"], apart := false, narrowed := true }
def CellsPartsUptoSaid : Prop := cellsPartsUptoRow.holds Try.pinned (OpenSpec.upto cellsPartsSpec)

/-- 'fringelaw38.SparseTells', WHERE WHAT IT READS IS OF BULK AT MOST 1048576: true; the input reads as it did. -/
def sparseTellsUptoRow : OpenClaim := { program := "ytkgnbchnnbadlaa", sum := "b105b3386da8dfda7c097ce4b23b1d8984b2dc2262b00c5f9176c605dca4217b", func := "fringe/fringelaw38.SparseTells", spec := "sparseTells", inPlace := ["math/bits.Add64", "math/bits.Sub64"], named := ["math/bits.divideError", "math/bits.overflowError"], apart := false, narrowed := true }
def SparseTellsUptoSaid : Prop := sparseTellsUptoRow.holds Try.pinned (OpenSpec.upto sparseTellsSpec)

end Rows
end Go.Proofs.Ytkgnbchnnbadlaa
