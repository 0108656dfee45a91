/- The closed law of layer 36: it runs to true, whatever the order of its regions. -/
import Derived.Test.YtkgnbchnnbadlaaTy
import Derived.Test.YtkgnbchnnbadlaaFt
namespace Go.Proofs.Ytkgnbchnnbadlaa.M
theorem here : True := trivial
end Go.Proofs.Ytkgnbchnnbadlaa.M
namespace Go.Proofs.Ytkgnbchnnbadlaa.A
open Go Go.RowKit Go.Proofs.Ytkgnbchnnbadlaa.X
set_option maxRecDepth 1000000
theorem cellsNames_run : (rCall tys (ctOf fts) (fun _ => none) 1000 50 11 [] []).map (·.1) = some (.bl true) := by kernel_rfl
theorem cellsNames_walk (w : World) : Calls Try.prog 11 #[] w fun e w' => e = .returned (.bool true) ∧ Below w.heap.size w w' :=
  rx tys_ok (by kernel_rfl) fts_ok (gvNone _) 1000 50 cellsNames_run (fun _ => rfl) (fun β v h => (Option.some.inj h).symm) w
end Go.Proofs.Ytkgnbchnnbadlaa.A
