/- Facts that the proofs of this claim lean on. -/
import Derived.Test.YtfhhdgkhajkapaaGreatNPI
import Derived.Test.YtfhhdgkhajkapaaGreatIdGr
set_option linter.unusedSimpArgs false
set_option linter.unusedVariables false
/- The stable sort of pieces. -/
namespace Go.Proofs.NO
open Go Go.Idl Go.Proofs Go.GN
set_option maxHeartbeats 20000000
set_option maxRecDepth 100000
attribute [go_sem] fcap
end Go.Proofs.NO
