/- The document's fixed calls of serving links. -/
import Derived.Test.YtiahkkkgomoifaaGreatFTypes
import Derived.Test.YtiahkkkgomoifaaGreatIdZq
set_option linter.unusedSimpArgs false
set_option linter.unusedVariables false
namespace Go.Proofs.FA
open Go Go.Idl Go.Proofs
set_option maxHeartbeats 20000000
set_option maxRecDepth 100000
theorem fixed_spec:Pure Tryz.prog 10 [] (scb true):=ycallY 100000 (fun _=>false) (fun _=>false) (by kernel_rfl)
end Go.Proofs.FA
