/- ScriptLike. -/
import Derived.Test.YtoiledoommblcaaGreatZTypes
import Derived.Test.YtoiledoommblcaaGreatIdTx
set_option linter.unusedSimpArgs false
set_option linter.unusedVariables false
namespace Go.Proofs.TZ
open Go Go.Idl Go.Proofs
set_option maxHeartbeats 20000000
set_option maxRecDepth 100000
theorem fixed_spec : Pure Tryz.prog 15 [] (scb true) := xcallB 100000 (fun c => c == 15) (by kernel_rfl)
end Go.Proofs.TZ
