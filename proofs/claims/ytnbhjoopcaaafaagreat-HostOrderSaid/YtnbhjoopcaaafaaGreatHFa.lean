/- Lists of numbers of their own, all of them held. -/
import Derived.Test.YtnbhjoopcaaafaaGreatHCi
import Derived.Test.YtnbhjoopcaaafaaGreatIdFm
set_option linter.unusedSimpArgs false
set_option linter.unusedVariables false
namespace Go.Proofs.HO
open Go Go.Idl Go.Proofs
set_option maxHeartbeats 20000000
set_option maxRecDepth 100000
end Go.Proofs.HO
