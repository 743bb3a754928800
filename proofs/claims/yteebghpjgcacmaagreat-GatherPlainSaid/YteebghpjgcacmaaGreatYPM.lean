/- The document's fixed calls of gathering. -/
import Derived.Test.YteebghpjgcacmaaGreatYTypes
import Derived.Test.YteebghpjgcacmaaGreatIdZq
set_option linter.unusedSimpArgs false
set_option linter.unusedVariables false
namespace Go.Proofs.GY
open Go Go.Idl Go.Proofs
set_option maxHeartbeats 20000000
set_option maxRecDepth 100000
theorem qhL:Pure Tryz.prog 20 [] (scb true):=ycallK 100000 (fun c=>c==20) (by kernel_rfl)
end Go.Proofs.GY
