/- Facts that the proofs of this claim lean on. -/
import Derived.Test.YtnbhjoopcaaafaaGreatHP2
set_option linter.unusedSimpArgs false
set_option linter.unusedVariables false
/- What a host tells. -/
namespace Go.Proofs.HO
open Go Go.Idl Go.Proofs
set_option maxHeartbeats 20000000
set_option maxRecDepth 100000
end Go.Proofs.HO
/- What a host tells without logs. -/
namespace Go.Proofs.HO
open Go Go.Idl Go.Proofs
set_option maxHeartbeats 20000000
set_option maxRecDepth 100000
end Go.Proofs.HO
