/- What a host tells without logs. -/
import Derived.Test.YtnbhjoopcaaafaaGreatHP2
set_option linter.unusedSimpArgs false
set_option linter.unusedVariables false
namespace Go.Proofs.HO
open Go Go.Idl Go.Proofs
set_option maxHeartbeats 20000000
set_option maxRecDepth 100000
end Go.Proofs.HO
