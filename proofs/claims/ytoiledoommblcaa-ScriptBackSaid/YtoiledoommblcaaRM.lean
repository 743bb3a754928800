/- ScriptLike. -/
import Derived.Test.YtoiledoommblcaaRTypes
import Derived.Test.YtoiledoommblcaaIdTx
set_option linter.unusedSimpArgs false
set_option linter.unusedVariables false
namespace Go.Proofs.TR
open Go Go.Idl Go.Proofs
set_option maxHeartbeats 20000000
set_option maxRecDepth 100000
theorem fixed_spec : Pure Try.prog 13 [] (scb true) := xcallB 100000 (fun c => c == 13) (by kernel_rfl)
end Go.Proofs.TR
