/- The closed law of layer 29: it runs to true, whatever the order of its regions. -/
import Derived.Test.YtpopapmmceopmaaTy
import Derived.Test.YtpopapmmceopmaaFt
import Derived.Test.YtpopapmmceopmaaWd
namespace Go.Proofs.Ytpopapmmceopmaa.M
theorem here : True := trivial
end Go.Proofs.Ytpopapmmceopmaa.M
namespace Go.Proofs.Ytpopapmmceopmaa.A
open Go Go.RowKit Go.Proofs.Ytpopapmmceopmaa.X
set_option maxRecDepth 1000000
theorem solveNames_run : (rCall tys (ctOf fts) gvW 1000 50 6 [] []).map (·.1) = some (.bl true) := by kernel_rfl
theorem solveNames_walk (w : World) : Calls Try.prog 6 #[] w fun e w' => e = .returned (.bool true) ∧ Below w.heap.size w w' :=
  rx tys_ok (by kernel_rfl) fts_ok (gvW_ok) 1000 50 solveNames_run (fun _ => rfl) (fun β v h => (Option.some.inj h).symm) w
end Go.Proofs.Ytpopapmmceopmaa.A
