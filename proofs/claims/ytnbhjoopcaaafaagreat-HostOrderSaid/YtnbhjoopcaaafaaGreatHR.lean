/- How far nodes are; which graphs may be. -/
import Derived.Test.YtnbhjoopcaaafaaGreatHQ
import Derived.Test.YtnbhjoopcaaafaaGreatGPm
set_option linter.unusedSimpArgs false
set_option linter.unusedVariables false
namespace Go.Proofs.HO
open Go Go.Idl Go.Proofs Go.GP
set_option maxHeartbeats 20000000
set_option maxRecDepth 100000
end Go.Proofs.HO
