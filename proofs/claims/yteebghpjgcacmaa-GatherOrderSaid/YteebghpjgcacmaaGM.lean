/- The document's fixed calls of gathering. -/
import Derived.Test.YteebghpjgcacmaaGTypes
import Derived.Test.YteebghpjgcacmaaIdZq
set_option linter.unusedSimpArgs false
set_option linter.unusedVariables false
namespace Go.Proofs.GR
open Go Go.Idl Go.Proofs
set_option maxHeartbeats 20000000
set_option maxRecDepth 100000
theorem fixed_spec : Pure Try.prog 9 [] (scb true) := ycallK 100000 (fun c => c == 9) (by kernel_rfl)
end Go.Proofs.GR
