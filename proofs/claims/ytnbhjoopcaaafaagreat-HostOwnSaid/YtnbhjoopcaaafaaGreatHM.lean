/- The document's fixed calls of hosts. -/
import Derived.Test.YtnbhjoopcaaafaaGreatHTypes
import Derived.Test.YtnbhjoopcaaafaaGreatIdZq
set_option linter.unusedSimpArgs false
set_option linter.unusedVariables false
namespace Go.Proofs.HO
open Go Go.Idl Go.Proofs
set_option maxHeartbeats 20000000
set_option maxRecDepth 100000
theorem fixed_spec:Pure Tryz.prog 14 [] (scb true):=ycallY 100000 (fun c=>c==14) (fun c=>c==99 || c==100) (by kernel_rfl)
end Go.Proofs.HO
